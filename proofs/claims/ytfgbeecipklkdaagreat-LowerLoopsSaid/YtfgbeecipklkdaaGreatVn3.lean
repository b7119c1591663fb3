/-
  The walk through LowerLoops: what its functions do to memory, part Vn3. Nothing is asked.
-/
import Derived.Test.YtfgbeecipklkdaaGreatVn2
set_option linter.all false
namespace Go.Proofs.YtfgbeecipklkdaaGreat
open Go Go.Ag
set_option linter.unusedVariables false
set_option maxRecDepth 100000

theorem agg51 : aggT Tryz.prog 51 = some (some 1) := by kernel_rfl
theorem res_cell1 {T : FT} {S : MS} {b es t : Nat} {v : Value} {rs : List ResultVar} (hT : T.get t = .pointer (some ⟨b, 0, none⟩)) (h : S.m b = some (.cells [v] es)) : resM Tryz.prog T S (.cell t 51 :: rs) = (resM Tryz.prog T S rs).bind fun vs => some (.agg #[v] :: vs) := by
  have e : mload Tryz.prog S 51 (T.get t) = some (.agg #[v]) := by
    unfold mload
    rw [agg51, hT]
    show ldS (some 1) S _ = _
    rw [ldS_ptr, list_of h, list_cells]
    rfl
  show (mload Tryz.prog S 51 (T.get t)).bind _ = _
  rw [e]
  rfl
/-- with -/
theorem with33 {O : Hook} (hO : Fr O) {mv lv' : Value} {l : List En} {S : MS} (wf : S.WF) (hs : IsSt S mv l) (hone' : lv'.cells = #[lv'] ∧ oneCell lv' = true) {Q : Value → MS → Prop} (hq : ∀ mv' S', Old S S' → S'.WF → (∃ b' c', S.n ≤ b' ∧ mv' = .slice (some ⟨b', 0, none⟩) 1 c' ∧ S'.m b' = some (.cells [lv'] 1) ∧ b' < S'.n) → Q (.agg #[mv']) S') : CallM Tryz.prog O 33 [.agg #[mv], .int .i64 0, lv'] S Q := by
  refine callM_body (fnIs is33 body33 res33) (hO.at rfl _) (by simp) ?_
  refine m_seq (m_reg ?_)
  rw [reg33_0]
  have hc : (Value.cells (.agg #[mv])).toList = [mv] := rfl
  simp (decide := true) only [SV, Option.some.injEq, Prod.mk.injEq, Value.bool.injEq, exists_eq_left', exists_and_left, and_assoc, decide_eq_true_eq, decide_eq_false_iff_not, if_true, if_false, Nat.zero_add, Nat.add_zero, Option.bind_some, true_and, and_true, forall_const, true_implies, Bool.not_eq_true, Bool.false_eq_true, false_implies, ite_self, Nat.mul_one, ptrTo, hc]
  have o2 : Old S ((S.fresh [mv] 0).fresh [.slice none 0 0] 0) := (old_fresh _ _ _).trans (old_fresh _ _ _)
  have wf2 := wf_fresh' (wf_fresh' wf [mv] 0) [.slice none 0 0] 0
  have hs2 := hs.old wf o2
  have l1 : ((S.fresh [mv] 0).fresh [.slice none 0 0] 0).list S.n = some [mv] := by rw [list_of ((fresh_old _ _ _ (by rw [fresh_n]; omega)).trans (fresh_at S _ _)), list_cells]
  have l2 : ((S.fresh [mv] 0).fresh [.slice none 0 0] 0).m (S.n + 1) = some (.cells [.slice none 0 0] 0) := fresh_at (S.fresh [mv] 0) _ _
  have n2 : ((S.fresh [mv] 0).fresh [.slice none 0 0] 0).n = S.n + 2 := rfl
  simp only [fresh_n]
  generalize (S.fresh [mv] 0).fresh [.slice none 0 0] 0 = S2 at o2 l1 l2 hs2 wf2 n2
  obtain ⟨b, c, lv, junk, rfl, hb, hbn, hl⟩ := hs2.ex
  have hone := (SlF.one hl).2
  have e3 := apS_nil (S := S2) (sz := 1) (bytes := 24) (z := [.slice none 0 0]) (x := .slice (some ⟨b, 0, none⟩) 1 c) (n := 1) (new := [lv]) rfl
    (by rw [first_of hb (by simp) (by simp) (by simp)]; rfl) rfl (by simp [hone]) (by simp) (by simp) (by simp)
  have o3 : Old S2 (S2.fresh [lv] 1) := old_fresh _ _ _
  have g3 : (S2.fresh [lv] 1).m S2.n = some (.cells [lv] 1) := fresh_at _ _ _
  have n3 : (S2.fresh [lv] 1).n = S2.n + 1 := rfl
  generalize S2.fresh [lv] 1 = S3 at o3 g3 n3 e3
  refine m_seq (m_reg ?_)
  rw [reg33_1]
  simp (decide := true) only [SV, Option.some.injEq, Prod.mk.injEq, Value.bool.injEq, exists_eq_left', exists_and_left, and_assoc, decide_eq_true_eq, decide_eq_false_iff_not, if_true, if_false, Nat.zero_add, Nat.add_zero, Option.bind_some, true_and, and_true, forall_const, true_implies, Bool.not_eq_true, Bool.false_eq_true, false_implies, ite_self, Nat.mul_one, l1, List.getElem?_cons_zero]
  refine ⟨_, _, e3, _, rfl, ?_⟩
  obtain ⟨S5, e5, g5, m5, k5⟩ := st_all (n := 1) (cs := #[.slice (some ⟨S2.n, 0, none⟩) 1 unk]) (fresh_at S3 [.slice none 0 0] 0) rfl rfl rfl
  refine ⟨S5, e5, ?_⟩
  have o5 : Old S3 S5 := ⟨by rw [m5]; exact Nat.le_succ _, fun y hy => by rw [k5 y (by omega)]; exact fresh_old _ _ _ (by omega)⟩
  have h5 : S5.m S2.n = some (.cells [lv] 1) := (o5.2 _ (by omega)).trans g3
  have n5 : S5.n = S3.n + 1 := m5
  have h52 : S5.list S3.n = some [.slice (some ⟨S2.n, 0, none⟩) 1 unk] := by rw [list_of g5, list_cells]
  refine m_seq (m_reg ?_)
  rw [reg33_2]
  have ia : iaSS 1 (.slice (some ⟨S2.n, 0, none⟩) 1 unk) (.int .i64 0) = some (.pointer (some ⟨S2.n, 0, none⟩)) := rfl
  simp (decide := true) only [SV, Option.some.injEq, Prod.mk.injEq, Value.bool.injEq, exists_eq_left', exists_and_left, and_assoc, decide_eq_true_eq, decide_eq_false_iff_not, if_true, if_false, Nat.zero_add, Nat.add_zero, Option.bind_some, true_and, and_true, forall_const, true_implies, Bool.not_eq_true, Bool.false_eq_true, false_implies, ite_self, Nat.mul_one, ptrTo, h52, List.getElem?_cons_zero, ia]
  obtain ⟨S6, e6, g6, m6, k6⟩ := st_one (v := lv') h5 (off := 0) (by simp) hone'.1 hone'.2
  refine ⟨S6, e6, ?_⟩
  have h6 : ldS (some 1) S6 (.pointer (some ⟨S3.n, 0, none⟩)) = some (.agg #[.slice (some ⟨S2.n, 0, none⟩) 1 unk]) := by
    rw [ldS_ptr, list_of ((k6 _ (by omega)).trans g5)]; rfl
  have l26 : S6.m (S.n + 1) = some (.cells [.slice none 0 0] 0) := by
    rw [k6 _ (by omega), o5.2 _ (by omega), o3.2 _ (by omega)]; exact l2
  refine m_seq (m_reg ?_)
  rw [reg33_3]
  simp (decide := true) only [FT.get_set, FT.setL, if_true, if_false, ptrTo, h6, Option.some.injEq, exists_eq_left']
  obtain ⟨S7, e7, g7, m7, k7⟩ := st_all (n := 1) (cs := #[.slice (some ⟨S2.n, 0, none⟩) 1 unk]) l26 rfl rfl rfl
  refine ⟨S7, e7, ?_⟩
  refine m_wf fun wf7 => m_ret ?_
  refine ⟨trivial, [.agg #[.slice (some ⟨S2.n, 0, none⟩) 1 unk]], ?_, ?_⟩
  · rw [res_cell1 (by simp [SV]) g7, res_nil]; rfl
  · have o7 : Old S S7 := ⟨by rw [m7, m6, n5, n3, n2]; omega, fun y hy => by rw [k7 _ (by omega), k6 _ (by omega), o5.2 _ (by omega), o3.2 _ (by omega)]; exact o2.2 y hy⟩
    refine hq _ _ o7 wf7 ⟨S2.n, unk, by omega, rfl, ?_, by rw [m7, m6, n5, n3]; omega⟩
    exact (k7 _ (by omega)).trans g6
end Go.Proofs.YtfgbeecipklkdaaGreat
namespace Go.Proofs.YtfgbeecipklkdaaGreat
open Go Go.Ag
set_option linter.unusedVariables false
set_option maxRecDepth 100000

def putL (l : List En) (k v : Int) : List En := l.take (idx l k) ++ (k, v) :: l.drop (idx l k)
theorem putL_len (l : List En) (k v : Int) : (putL l k v).length = l.length + 1 := by
  unfold putL
  have := idx_le k l
  rw [List.length_append, List.length_cons, List.length_take, List.length_drop]; omega
theorem putL_map (l : List En) (k v : Int) : (putL l k v).map up = (l.map up).take (idx l k) ++ up (k, v) :: (l.map up).drop (idx l k) := by
  unfold putL
  simp [List.map_append, List.map_take, List.map_drop]
def z10 : List Value := [.int .i64 0, .int .i64 0, es, .int .i64 0, .slice none 0 0, .int .i64 0, .int .i64 0, es, .int .i64 0, .slice none 0 0]
def zCe : Ce := ((0, 0), (0, 0))
/-- room is made -/
theorem cp_ins {S : MS} {b c1 c2 i : Nat} {L junk : List Ce} (hb : S.m b = some (.cells ((L ++ [zCe] ++ junk).flatMap fG) 10)) (hi : i ≤ L.length) :
    ∃ (r : Value) (S' : MS) (M : List Ce), cpS 10 S [.slice (some ⟨b, (i + 1) * 10, none⟩) (L.length + 1 - (i + 1)) c1, .slice (some ⟨b, i * 10, none⟩) (L.length + 1 - i) c2] = some (r, S') ∧ S'.m b = some (.cells (M.flatMap fG) 10) ∧ M.length = (L ++ [zCe] ++ junk).length ∧ (∀ x, M.set i x = L.take i ++ x :: L.drop i ++ junk) ∧ S'.n = S.n ∧ ∀ y, y ≠ b → S'.m y = S.m y := by
  have hmin : Nat.min (L.length + 1 - i) (L.length + 1 - (i + 1)) = L.length - i := by
    show min _ _ = _
    omega
  by_cases h0 : L.length - i = 0
  · have hi' : i = L.length := by omega
    subst hi'
    refine ⟨goInt 0, S, L ++ [zCe] ++ junk, ?_, hb, rfl, fun x => ?_, rfl, fun y hy => rfl⟩
    · unfold cpS
      have e0 : firstCellsM S 10 0 (.slice (some ⟨b, L.length * 10, none⟩) (L.length + 1 - L.length) c2) = some [] := by unfold firstCellsM; simp
      simp only [lenOfA, Option.bind_some, hmin, h0, e0]
      simp
    · rw [List.append_assoc, List.set_append_right _ _ (Nat.le_refl _)]
      simp
  · have hlt : i < L.length := by omega
    have hg : (L ++ [zCe] ++ junk).length = L.length + 1 + junk.length := by simp; omega
    have hcs : firstCellsM S 10 (L.length - i) (.slice (some ⟨b, i * 10, none⟩) (L.length + 1 - i) c2) = some ((L.drop i).flatMap fG) := by
      rw [first_of (list_of hb) (by omega) h0 (by
        rw [fm_len fG_len, hg]
        have : (i + (L.length - i)) * 10 ≤ (L.length + 1 + junk.length) * 10 := Nat.mul_le_mul_right _ (by omega)
        omega)]
      rw [fm_drop fG_len, List.append_assoc, List.drop_append_of_le_length (by omega)]
      have e1 : L.length - i = (L.drop i).length := by simp
      rw [e1, fm_take fG_len]
    refine ⟨_, _, L.take (i + 1) ++ L.drop i ++ junk, cpS_of hb rfl hmin h0 hcs (by
        rw [List.all_eq_true]; intro v hv
        obtain ⟨a, _, ha⟩ := List.mem_flatMap.1 hv
        exact List.all_eq_true.1 (fG_one a) v ha) (by
        rw [fm_len fG_len, fm_len fG_len, hg, List.length_drop]
        have : (i + 1 + (L.length - i)) * 10 ≤ (L.length + 1 + junk.length) * 10 := Nat.mul_le_mul_right _ (by omega)
        omega), ?_, ?_, fun x => ?_, rfl, fun y hy => by rw [set_m, if_neg hy]⟩
    · rw [set_m, if_pos rfl]
      congr 2
      unfold spliceL
      have h1 : ((L ++ [zCe] ++ junk).flatMap fG).take ((i + 1) * 10) = (L.take (i + 1)).flatMap fG := by
        have e2 : L ++ [zCe] ++ junk = L.take (i + 1) ++ (L.drop (i + 1) ++ [zCe] ++ junk) := by
          rw [← List.append_assoc, ← List.append_assoc, List.take_append_drop]
        have := fm_take fG_len (L.take (i + 1)) (L.drop (i + 1) ++ [zCe] ++ junk)
        rw [List.length_take, Nat.min_eq_left (by omega)] at this
        rw [e2]; exact this
      have h2 : ((L ++ [zCe] ++ junk).flatMap fG).drop ((i + 1) * 10 + ((L.drop i).flatMap fG).length) = junk.flatMap fG := by
        have e2 : (i + 1) * 10 + ((L.drop i).flatMap fG).length = (L ++ [zCe]).length * 10 := by
          rw [fm_len fG_len, List.length_drop, List.length_append, List.length_singleton]; omega
        rw [e2, fm_drop fG_len, List.drop_left' rfl]
      rw [h1, h2, List.flatMap_append, List.flatMap_append, List.append_assoc]
    · rw [hg]; simp; omega
    · have hl1 : (L.take (i + 1)).length = i + 1 := by rw [List.length_take]; omega
      rw [List.append_assoc, List.set_append_left _ _ (by omega)]
      have e3 : (L.take (i + 1)).set i x = L.take i ++ [x] := by
        rw [List.set_eq_take_append_cons_drop, if_pos (by omega), List.take_take, Nat.min_eq_left (by omega), List.drop_of_length_le (by omega)]
      rw [e3]
      simp
end Go.Proofs.YtfgbeecipklkdaaGreat
namespace Go.Proofs.YtfgbeecipklkdaaGreat
open Go Go.Ag
set_option linter.unusedVariables false
set_option maxRecDepth 100000

/-- Put of a key that is not there -/
theorem put12 {O : Hook} (hO : Fr O) {mv : Value} {l : List En} {k v : Int} {S : MS} (wf : S.WF) (hs : IsSt S mv l) (hlen : l.length < 24) (hna : isAt l (idx l k) k = false) {Q : Value → MS → Prop}
    (hq : ∀ mv' S', Old S S' → S'.WF → IsSt S' mv' (putL l k v) → Q (.tuple #[.agg #[mv'], .int .i64 0]) S') : CallM Tryz.prog O 12 [.agg #[mv], .int .i64 0, vN 1 k, vN 1 v] S Q := by
  refine callM_body (fnIs is12 body12 res12) (hO.at rfl _) (by simp) ?_
  refine m_seq (m_reg ?_)
  rw [reg12_0]
  have hc : (Value.cells (.agg #[mv])).toList = [mv] := rfl
  simp (decide := true) only [SV, Option.some.injEq, Prod.mk.injEq, Value.bool.injEq, exists_eq_left', exists_and_left, and_assoc, decide_eq_true_eq, decide_eq_false_iff_not, if_true, if_false, Nat.zero_add, Nat.add_zero, Option.bind_some, true_and, and_true, forall_const, true_implies, Bool.not_eq_true, Bool.false_eq_true, false_implies, ite_self, Nat.mul_one, vN_cells, ptrTo, hc]
  have F := fun (A : MS) (l : List Value) (x : Nat) (h : x ≠ A.n) => fresh_old A l 0 h
  have o2 : Old S ((((S.fresh [mv] 0).fresh (lN 1 k) 0).fresh (lN 1 v) 0).fresh [.slice none 0 0] 0) := (old_fresh _ _ _).trans ((old_fresh _ _ _).trans ((old_fresh _ _ _).trans (old_fresh _ _ _)))
  have wf2 := wf_fresh' (wf_fresh' (wf_fresh' (wf_fresh' wf [mv] 0) (lN 1 k) 0) (lN 1 v) 0) [.slice none 0 0] 0
  have hs2 := hs.old wf o2
  have l0 : ((((S.fresh [mv] 0).fresh (lN 1 k) 0).fresh (lN 1 v) 0).fresh [.slice none 0 0] 0).m S.n = some (.cells [mv] 0) := by
    rw [F _ _ _ (by simp only [fresh_n]; omega), F _ _ _ (by simp only [fresh_n]; omega), F _ _ _ (by simp only [fresh_n]; omega), fresh_at]
  have l1 : ((((S.fresh [mv] 0).fresh (lN 1 k) 0).fresh (lN 1 v) 0).fresh [.slice none 0 0] 0).m (S.n + 1) = some (.cells (lN 1 k) 0) := by
    rw [F _ _ _ (by simp only [fresh_n]; omega), F _ _ _ (by simp only [fresh_n]; omega)]
    exact fresh_at (S.fresh [mv] 0) _ _
  have l2 : ((((S.fresh [mv] 0).fresh (lN 1 k) 0).fresh (lN 1 v) 0).fresh [.slice none 0 0] 0).m (S.n + 2) = some (.cells (lN 1 v) 0) := by
    rw [F _ _ _ (by simp only [fresh_n]; omega)]
    exact fresh_at ((S.fresh [mv] 0).fresh (lN 1 k) 0) _ _
  have l3 : ((((S.fresh [mv] 0).fresh (lN 1 k) 0).fresh (lN 1 v) 0).fresh [.slice none 0 0] 0).m (S.n + 3) = some (.cells [.slice none 0 0] 0) := fresh_at (((S.fresh [mv] 0).fresh (lN 1 k) 0).fresh (lN 1 v) 0) _ _
  have n2 : ((((S.fresh [mv] 0).fresh (lN 1 k) 0).fresh (lN 1 v) 0).fresh [.slice none 0 0] 0).n = S.n + 4 := rfl
  simp only [fresh_n]
  generalize (((S.fresh [mv] 0).fresh (lN 1 k) 0).fresh (lN 1 v) 0).fresh [.slice none 0 0] 0 = S2 at o2 l0 l1 l2 l3 hs2 wf2 n2
  have li0 : S2.list S.n = some [mv] := by rw [list_of l0, list_cells]
  obtain ⟨b, c, lv, junk, rfl, hb, hbn, hl⟩ := hs2.ex
  -- the boxes
  have ldm : ∀ S', Old S2 S' → ldS (some 1) S' (.pointer (some ⟨S.n, 0, none⟩)) = some (.agg #[.slice (some ⟨b, 0, none⟩) 1 c]) := fun S' f => by
    rw [ldS_ptr, list_of ((f.2 _ (by omega)).trans l0)]; rfl
  have ldk : ∀ S', Old S2 S' → ldS (some 5) S' (.pointer (some ⟨S.n + 1, 0, none⟩)) = some (vN 1 k) := fun S' f => by
    rw [ldS_ptr, list_of ((f.2 _ (by omega)).trans l1)]; rfl
  have ldv : ∀ S', Old S2 S' → ldS (some 5) S' (.pointer (some ⟨S.n + 2, 0, none⟩)) = some (vN 1 v) := fun S' f => by
    rw [ldS_ptr, list_of ((f.2 _ (by omega)).trans l2)]; rfl
  refine m_seq (m_seq (m_reg ?_))
  rw [reg12_1]
  simp (decide := true) only [SV, Option.some.injEq, Prod.mk.injEq, Value.bool.injEq, exists_eq_left', exists_and_left, and_assoc, decide_eq_true_eq, decide_eq_false_iff_not, if_true, if_false, Nat.zero_add, Nat.add_zero, Option.bind_some, true_and, and_true, forall_const, true_implies, Bool.not_eq_true, Bool.false_eq_true, false_implies, ite_self, Nat.mul_one, li0, List.getElem?_cons_zero]
  refine m_cond (t := false) (by simp [evalT, SV]) (fun h => by cases h) (fun _ => m_skip ?_)
  refine m_seq (m_reg ?_)
  rw [reg12_3]
  simp (decide := true) only [FT.get_set, FT.setL, if_true, if_false, ldm S2 (Old.refl _), ldk S2 (Old.refl _), Option.some.injEq, exists_eq_left']
  refine at32 hO wf2 hs2 (by omega) fun S3 o3 => ?_
  rw [hna]
  simp (decide := true) only [aextract, FT.get_set, FT.setL, List.getElem?_cons_zero, List.getElem?_cons_succ, Option.some.injEq, exists_eq_left', if_true, if_false]
  refine m_wf fun wf3 => ?_
  have hl3 := SlE.old hl wf2 o3
  have li3 : S3.list S.n = some [.slice (some ⟨b, 0, none⟩) 1 c] := by unfold MS.list; rw [o3.2 _ (by omega)]; exact li0
  have lb3 : S3.list b = some (lv :: junk) := by unfold MS.list; rw [o3.2 _ hbn]; exact hb
  refine m_seq (m_reg ?_)
  rw [reg12_4]
  have ia : iaSS 1 (.slice (some ⟨b, 0, none⟩) 1 c) (.int .i64 0) = some (.pointer (some ⟨b, 0, none⟩)) := rfl
  simp (decide := true) only [SV, Option.some.injEq, Prod.mk.injEq, Value.bool.injEq, exists_eq_left', exists_and_left, and_assoc, decide_eq_true_eq, decide_eq_false_iff_not, if_true, if_false, Nat.zero_add, Nat.add_zero, Option.bind_some, true_and, and_true, forall_const, true_implies, Bool.not_eq_true, Bool.false_eq_true, false_implies, ite_self, Nat.mul_one, li3, lb3, List.getElem?_cons_zero, ia]
  obtain ⟨v5, S5, e5, h5, n5, k5, q5⟩ := SlF.app2 (f := fG) (sz := 10) fG_len fG_one (by decide) (bytes := 128) (z := z10) (x := lv) (new := l.map up) (SlF.non (S := S3) (B := S3.n)) wf3 (Nat.le_refl _) (SlF.len hl3)
    (SlF.cells fG_len hl3) (by rw [List.length_map]; simp; omega) (by rw [List.length_map]; simp; omega)
  have o5 : Old S3 S5 := ⟨n5, fun y hy => k5 y hy (fun l c e => by cases e)⟩
  rw [List.nil_append] at h5
  refine ⟨v5, S5, e5, ?_⟩
  refine m_wf fun wf5 => ?_
  refine m_seq (m_seq (m_reg ?_))
  rw [reg12_5]
  simp (decide := true) only [SV, Option.some.injEq, Prod.mk.injEq, Value.bool.injEq, exists_eq_left', exists_and_left, and_assoc, decide_eq_true_eq, decide_eq_false_iff_not, if_true, if_false, Nat.zero_add, Nat.add_zero, Option.bind_some, true_and, and_true, forall_const, true_implies, Bool.not_eq_true, Bool.false_eq_true, false_implies, ite_self, Nat.mul_one, ]
  refine m_cond (t := false) (by simp [evalT, SV]) (fun h => by cases h) (fun _ => m_skip ?_)
  refine m_seq (m_seq (m_reg ?_))
  rw [reg12_8]
  have len5 : lenSl v5 = some (.int .i64 (l.length : Int)) := by have := h5.lenSl; rwa [List.length_map] at this
  have d24 : decide ((l.length : Int) ≥ 24) = false := by simp; omega
  simp (decide := true) only [SV, Option.some.injEq, Prod.mk.injEq, Value.bool.injEq, exists_eq_left', exists_and_left, and_assoc, decide_eq_true_eq, decide_eq_false_iff_not, if_true, if_false, Nat.zero_add, Nat.add_zero, Option.bind_some, true_and, and_true, forall_const, true_implies, Bool.not_eq_true, Bool.false_eq_true, false_implies, ite_self, Nat.mul_one, len5, d24]
  refine m_cond (t := false) (by simp [evalT, SV]; try omega) (fun h => by cases h) (fun _ => m_skip ?_)
  refine m_seq (m_reg ?_)
  rw [reg12_10]
  simp (decide := true) only [SV, Option.some.injEq, Prod.mk.injEq, Value.bool.injEq, exists_eq_left', exists_and_left, and_assoc, decide_eq_true_eq, decide_eq_false_iff_not, if_true, if_false, Nat.zero_add, Nat.add_zero, Option.bind_some, true_and, and_true, forall_const, true_implies, Bool.not_eq_true, Bool.false_eq_true, false_implies, ite_self, Nat.mul_one, ]
  refine ⟨.agg z10.toArray, rfl, _, _, bsS_one S5 10 z10 (.agg z10.toArray) rfl rfl, ?_⟩
  have h6 : SlF fG 10 (S5.fresh z10 10) S3.n v5 (l.map up) := h5.keep fun x k hk => fresh_old _ _ _ (Nat.ne_of_lt (wf5 x k hk))
  obtain ⟨v7, S7, e7, h7, n7, k7, q7⟩ := SlF.app2 (f := fG) (sz := 10) fG_len fG_one (by decide) (bytes := 128) (z := z10) (x := .slice (some ⟨S5.n, 0, none⟩) 1 1) (new := [zCe]) h6 (wf_fresh' wf5 z10 10) (by show S3.n ≤ S5.n + 1; omega) rfl
    (by rw [first_of (list_of (fresh_at S5 z10 10)) (by simp) (by simp) (by simp [z10])]; rfl) (by rw [List.length_map]; simp; omega) (by rw [List.length_map]; simp; omega)
  have o7 : Old S3 S7 := ⟨Nat.le_trans n5 (Nat.le_trans (Nat.le_succ _) n7), fun y hy => by
    rw [k7 y (by show y < S5.n + 1; omega) (SlF.av h6 hy), fresh_old _ _ _ (by omega)]; exact o5.2 y hy⟩
  refine ⟨v7, S7, e7, ?_⟩
  generalize hL : l.map up ++ [zCe] = L7 at h7
  cases h7 with
  | non => simp at hL
  | own hb7 hB7 hc7 hj7 =>
  rename_i b7 cap7 junk7
  clear q7 q5
  subst hL
  have hil := idx_le k l
  have hlm : (l.map up).length = l.length := List.length_map ..
  have hN : ((l.map up ++ [zCe] ++ junk7).flatMap fG).length = (l.map up ++ [zCe] ++ junk7).length * 10 := fm_len fG_len (l.map up ++ [zCe] ++ junk7)
  have hge : (l.map up ++ [zCe]).length ≤ (l.map up ++ [zCe] ++ junk7).length := by simp only [List.length_append]; omega
  have hll : (l.map up ++ [zCe]).length = l.length + 1 := by simp
  have w1 : IntKind.i64.wrap ((idx l k : Nat) + 1 : Int) = ((idx l k + 1 : Nat) : Int) := by rw [wrap_i64 (by omega) (by omega)]; rfl
  have s1 := slS_part (low := some (.int .i64 ((idx l k + 1 : Nat) : Int))) (high := none) (i := idx l k + 1) (j := (l.map up ++ [zCe]).length) hb7 (by decide) hN hj7 hge (by omega) hge hc7 (.inr rfl) (.inl ⟨rfl, rfl⟩)
  have s2 := slS_part (low := some (.int .i64 (idx l k : Nat))) (high := none) (i := idx l k) (j := (l.map up ++ [zCe]).length) hb7 (by decide) hN hj7 hge (by omega) hge hc7 (.inr rfl) (.inl ⟨rfl, rfl⟩)
  refine m_seq (m_draw ?_)
  rw [reg12_11]
  simp (decide := true) only [SV, Option.some.injEq, Prod.mk.injEq, Value.bool.injEq, exists_eq_left', exists_and_left, and_assoc, decide_eq_true_eq, decide_eq_false_iff_not, if_true, if_false, Nat.zero_add, Nat.add_zero, Option.bind_some, true_and, and_true, forall_const, true_implies, Bool.not_eq_true, Bool.false_eq_true, false_implies, ite_self, Nat.mul_one, w1, s1, s2]
  obtain ⟨r8, S8, M, e8, g8, hM, hset, n8, k8⟩ := cp_ins (c1 := if cap7 = unk then unk else cap7 - (idx l k + 1)) (c2 := if cap7 = unk then unk else cap7 - idx l k) hb7 (i := idx l k) (by omega)
  have ell : (l.map up ++ [zCe]).length = (l.map up).length + 1 := by simp
  rw [ell]
  refine ⟨r8, S8, e8, ?_⟩
  have o8 : Old S3 S8 := o7.trans ⟨by omega, fun y hy => rfl⟩ |> fun h => ⟨by rw [n8]; exact o7.1, fun y hy => by rw [k8 y (by omega)]; exact o7.2 y hy⟩
  refine m_seq (m_reg ?_)
  rw [reg12_12]
  have ib : iaSS 10 (.slice (some ⟨b7, 0, none⟩) ((l.map up).length + 1) cap7) (.int .i64 (idx l k : Nat)) = some (.pointer (some ⟨b7, idx l k * 10, none⟩)) := by
    rw [iaSS_of (by omega) (by omega), Int.toNat_natCast, Nat.zero_add]
  simp (decide := true) only [FT.get_set, FT.setL, if_true, if_false, ldk S8 (o3.trans o8), ldv S8 (o3.trans o8), Option.some.injEq, exists_eq_left', ell]
  refine ⟨.agg (fG (up (k, v))).toArray, rfl, _, ib, ?_⟩
  obtain ⟨S9, e9, g9, n9, k9⟩ := fm_store fG_len fG_one (x := up (k, v)) g8 (i := idx l k) (by rw [hM]; simp; omega)
  refine ⟨S9, e9, ?_⟩
  have o9 : Old S3 S9 := ⟨by rw [n9]; exact o8.1, fun y hy => by rw [k9 y (by omega)]; exact o8.2 y hy⟩
  have hl9 : SlF fG 10 S9 S3.n (.slice (some ⟨b7, 0, none⟩) ((l.map up).length + 1) cap7) ((putL l k v).map up) := by
    have e0 : (l.map up).length + 1 = ((putL l k v).map up).length := by rw [List.length_map, List.length_map, putL_len]
    have hln : ((putL l k v).map up ++ junk7).length = (l.map up ++ [zCe] ++ junk7).length := by
      rw [List.length_append, List.length_map, putL_len, List.length_append, hll]
    rw [e0]
    refine .own (junk := junk7) ?_ hB7 (by rw [hln]; exact hc7) (by rw [hln]; exact hj7)
    rw [g9, hset, putL_map]
  refine m_wf fun wf9 => ?_
  refine m_seq (m_reg ?_)
  rw [reg12_13]
  simp (decide := true) only [FT.get_set, FT.setL, if_true, if_false, ldm S9 (o3.trans o9), Option.some.injEq, exists_eq_left']
  refine with33 hO (l := l) wf9 (hs2.old wf2 (o3.trans o9)) (SlF.one hl9) fun mv' S10 o10 wf10 hmv => ?_
  obtain ⟨b', c', hb', rfl, hlb, hbn'⟩ := hmv
  have h3lt : S.n + 3 < S3.n := by have := o3.1; omega
  have o310 := (o9.trans o10)
  obtain ⟨S11, e11, g11, n11, k11⟩ := st_all (n := 1) (cs := #[.slice (some ⟨b', 0, none⟩) 1 c']) ((o310.2 _ h3lt).trans ((o3.2 _ (by omega)).trans l3)) rfl rfl rfl
  refine ⟨S11, e11, ?_⟩
  refine m_wf fun wf11 => m_ret ?_
  refine ⟨trivial, [.agg #[.slice (some ⟨b', 0, none⟩) 1 c'], .int .i64 0], ?_, ?_⟩
  · rw [res_cell1 (by simp [SV]) g11, res_tmp, res_nil]; simp [SV]
  · refine hq _ S11 ?_ wf11 ?_
    · have o10' := o2.trans (o3.trans o310)
      exact ⟨by rw [n11]; exact o10'.1, fun y hy => by rw [k11 _ (by omega)]; exact o10'.2 y hy⟩
    · refine ⟨b', c', .slice (some ⟨b7, 0, none⟩) ((l.map up).length + 1) cap7, [], rfl, ?_, by rw [n11]; exact hbn', ?_⟩
      · have := o9.1
        exact (k11 _ (by omega)).trans hlb
      · have hl10 := SlF.keep hl9 (S' := S10) fun x k hk => o10.2 x (wf9 x k hk)
        exact (SlF.keep1 hl10 fun y k hy hm => k11 y fun e => hy (by subst e; exact SlF.av hl10 h3lt)).weaken (Nat.zero_le _)
end Go.Proofs.YtfgbeecipklkdaaGreat
namespace Go.Proofs.YtfgbeecipklkdaaGreat
open Go Go.Ag
set_option linter.unusedVariables false
set_option maxRecDepth 100000

theorem st_agg1 {S : MS} {b off : Nat} {l : List Value} {es : Nat} {v : Value} (h : S.m b = some (.cells l es)) (hlt : off < l.length) (ho : oneCell v = true) :
    ∃ S1, stS 1 S (.pointer (some ⟨b, off, none⟩)) (.agg #[v]) = some S1 ∧ S1.m b = some (.cells (l.set off v) es) ∧ S1.n = S.n ∧ ∀ x, x ≠ b → S1.m x = S.m x := by
  refine ⟨S.set b (.cells (l.set off v) es), ?_, by rw [set_m, if_pos rfl], rfl, fun x hx => by rw [set_m, if_neg hx]⟩
  have e : stS 1 S (.pointer (some ⟨b, off, none⟩)) (.agg #[v]) = if Nat.beq 1 1 && [v].all oneCell then S.write b off [v] else none := rfl
  rw [e, if_pos (by simp [ho]), write_of h (by show off + 1 ≤ l.length; omega), splice_one _ _ _ hlt]

/-- a world's cells: the program, the state, the depth, what was emitted, the fuel -/
def wL (pr : List Value) (mv : Value) (dp : Int) (em : Value) (fu : Int) : List Value :=
  pr ++ [mv, .slice none 0 0, .int .i64 0, .int .i64 dp, .int .i64 0, .int .i64 0, .slice none 0 0, em, .slice none 0 0, .slice none 0 0, .int .i64 fu, .int .i64 0, .bool false]
structure IsW (S : MS) (wb : Nat) (pr : List Value) (mv : Value) (dp : Int) (em : Value) (fu : Int) : Prop where
  l4 : pr.length = 4
  m : S.m wb = some (.cells (wL pr mv dp em fu) 0)
theorem wL_len {pr : List Value} {mv em : Value} {dp fu : Int} (h : pr.length = 4) : (wL pr mv dp em fu).length = 17 := by unfold wL; simp [h]
theorem wL_at {pr : List Value} {mv em : Value} {dp fu : Int} (h : pr.length = 4) (i : Nat) : (wL pr mv dp em fu)[4 + i]? = [mv, .slice none 0 0, .int .i64 0, .int .i64 dp, .int .i64 0, .int .i64 0, .slice none 0 0, em, .slice none 0 0, .slice none 0 0, .int .i64 fu, .int .i64 0, .bool false][i]? := by
  unfold wL
  rw [List.getElem?_append_right (by omega)]
  congr 1; omega
theorem wL_set {pr : List Value} {mv em : Value} {dp fu : Int} (h : pr.length = 4) (i : Nat) (v : Value) : (wL pr mv dp em fu).set (4 + i) v = pr ++ [mv, .slice none 0 0, .int .i64 0, .int .i64 dp, .int .i64 0, .int .i64 0, .slice none 0 0, em, .slice none 0 0, .slice none 0 0, .int .i64 fu, .int .i64 0, .bool false].set i v := by
  unfold wL
  rw [List.set_append_right _ _ (by omega)]
  congr 2; omega

/-- World.Put -/
theorem put160 {O : Hook} (hO : Fr O) {wb : Nat} {pr : List Value} {mv em : Value} {dp fu : Int} {l : List En} {k v : Int} {S : MS} (wf : S.WF) (hw : IsW S wb pr mv dp em fu) (hs : IsSt S mv l) (hlen : l.length < 24) (hna : isAt l (idx l k) k = false) {Q : Value → MS → Prop}
    (hq : ∀ mv' S', S'.WF → S.n ≤ S'.n → (∀ y, y < S.n → y ≠ wb → S'.m y = S.m y) → IsW S' wb pr mv' dp em fu → IsSt S' mv' (putL l k v) → Q (.bool false) S') : CallM Tryz.prog O 160 [.pointer (some ⟨wb, 0, none⟩), .int .i64 0, vN 1 k, vN 1 v] S Q := by
  refine callM_body (fnIs is160 body160 res160) (hO.at rfl _) (by simp) ?_
  refine m_seq (m_reg ?_)
  rw [reg160_0]
  simp (decide := true) only [SV, Option.some.injEq, Prod.mk.injEq, Value.bool.injEq, exists_eq_left', exists_and_left, and_assoc, decide_eq_true_eq, decide_eq_false_iff_not, if_true, if_false, Nat.zero_add, Nat.add_zero, Option.bind_some, true_and, and_true, forall_const, true_implies, Bool.not_eq_true, Bool.false_eq_true, false_implies, ite_self, Nat.mul_one, vN_cells, ptrTo]
  have hwn := wf _ _ hw.m
  have o2 : Old S ((S.fresh (lN 1 k) 0).fresh (lN 1 v) 0) := (old_fresh _ _ _).trans (old_fresh _ _ _)
  have wf2 := wf_fresh' (wf_fresh' wf (lN 1 k) 0) (lN 1 v) 0
  have l1 : ldS (some 5) ((S.fresh (lN 1 k) 0).fresh (lN 1 v) 0) (.pointer (some ⟨S.n, 0, none⟩)) = some (vN 1 k) := by
    rw [ldS_ptr, list_of ((fresh_old _ _ _ (by rw [fresh_n]; omega)).trans (fresh_at S _ _)), list_cells]; rfl
  have l2 : ldS (some 5) ((S.fresh (lN 1 k) 0).fresh (lN 1 v) 0) (.pointer (some ⟨S.n + 1, 0, none⟩)) = some (vN 1 v) := by
    have e : ((S.fresh (lN 1 k) 0).fresh (lN 1 v) 0).list (S.n + 1) = some (lN 1 v) := by
      show ((S.fresh (lN 1 k) 0).fresh (lN 1 v) 0).list (S.fresh (lN 1 k) 0).n = _
      rw [list_of (fresh_at (S.fresh (lN 1 k) 0) _ _), list_cells]
    rw [ldS_ptr, e]; rfl
  simp only [fresh_n]
  generalize (S.fresh (lN 1 k) 0).fresh (lN 1 v) 0 = S2 at o2 l1 l2 wf2
  have w2 : S2.m wb = some (.cells (wL pr mv dp em fu) 0) := (o2.2 _ hwn).trans hw.m
  have lw : ldS (some 1) S2 (.pointer (some ⟨wb, 4, none⟩)) = some (.agg #[mv]) := by
    rw [ldS_ptr, list_of w2, list_cells]
    show partS (some 1) _ 4 = _
    rw [partS_some _ _ _ (by rw [wL_len hw.l4]; omega)]
    unfold wL
    rw [List.drop_append_of_le_length (by rw [hw.l4]; exact Nat.le_refl _), List.drop_of_length_le (by rw [hw.l4]; exact Nat.le_refl _)]
    rfl
  refine m_seq (m_draw ?_)
  rw [reg160_1]
  simp (decide := true) only [FT.get_set, FT.setL, if_true, if_false, nilS_ptr, faS_ptr, Nat.zero_add, lw, l1, l2, Option.some.injEq, exists_eq_left']
  refine put12 hO wf2 (hs.old wf o2) hlen hna fun mv' S3 o3 wf3 hs3 => ?_
  have hone3 : oneCell mv' = true := by
    obtain ⟨b, c, lv, junk, rfl, _⟩ := hs3.ex
    rfl
  simp (decide := true) only [aextract, FT.get_set, FT.setL, List.getElem?_cons_zero, List.getElem?_cons_succ, Option.some.injEq, exists_eq_left', if_true, if_false, ptrTo]
  obtain ⟨S4, e4, g4, n4, k4⟩ := st_agg1 (v := mv') (off := 0) (fresh_at S3 [.slice none 0 0] 0) (by simp) hone3
  refine ⟨S4, e4, ?_⟩
  have o4 : Old S3 S4 := ⟨by rw [n4]; exact Nat.le_succ _, fun y hy => by rw [k4 y (by omega)]; exact fresh_old _ _ _ (by omega)⟩
  refine m_wf fun wf4 => ?_
  refine m_seq (m_seq (m_reg ?_))
  rw [reg160_2]
  simp (decide := true) only [SV, Option.some.injEq, Prod.mk.injEq, Value.bool.injEq, exists_eq_left', exists_and_left, and_assoc, decide_eq_true_eq, decide_eq_false_iff_not, if_true, if_false, Nat.zero_add, Nat.add_zero, Option.bind_some, true_and, and_true, forall_const, true_implies, Bool.not_eq_true, Bool.false_eq_true, false_implies, ite_self, Nat.mul_one, ]
  refine m_cond (t := false) (by simp [evalT, SV]) (fun h => by cases h) (fun _ => m_skip ?_)
  refine m_seq (m_reg ?_)
  rw [reg160_4]
  have l4 : ldS (some 1) S4 (.pointer (some ⟨S3.n, 0, none⟩)) = some (.agg #[mv']) := by
    rw [ldS_ptr, list_of g4]; rfl
  simp (decide := true) only [FT.get_set, FT.setL, if_true, if_false, nilS_ptr, faS_ptr, Nat.zero_add, l4, Option.some.injEq, exists_eq_left']
  have w4 : S4.m wb = some (.cells (wL pr mv dp em fu) 0) := by
    rw [o4.2 _ (by have := o2.1; have := o3.1; omega), o3.2 _ (by have := o2.1; omega)]; exact w2
  obtain ⟨S5, e5, g5, n5, k5⟩ := st_agg1 (v := mv') (off := 4) w4 (by rw [wL_len hw.l4]; omega) hone3
  refine ⟨S5, e5, ?_⟩
  refine m_wf fun wf5 => ?_
  refine m_seq (m_reg ?_)
  rw [reg160_5]
  refine m_ret ?_
  have o24 := o2.trans (o3.trans o4)
  refine ⟨trivial, [.bool false], ?_, hq mv' S5 wf5 (by rw [n5]; exact o24.1) (fun y hy hne => by rw [k5 y hne]; exact o24.2 y hy) ⟨hw.l4, ?_⟩ ?_⟩
  · rw [res_tmp, res_nil]; simp [SV]
  · rw [g5]; exact congrArg (fun l => some (K.cells l 0)) (wL_set hw.l4 0 mv')
  · refine (hs3.old wf3 o4).keepE (by rw [n5]; exact Nat.le_refl _) fun y l es he hm => k5 y fun e => ?_
    subst e
    rw [w4] at hm
    cases hm
    rcases he with h | h <;> cases h
end Go.Proofs.YtfgbeecipklkdaaGreat
namespace Go.Proofs.YtfgbeecipklkdaaGreat
open Go Go.Ag
set_option linter.unusedVariables false
set_option maxRecDepth 100000

/-- an instruction -/
structure MOp where
  c : Int
  d : Int
  a : Int
  b : Int
  k : Int
def opL (o : MOp) : List Value := [.int .i64 o.c, .int .i64 o.d, .int .i64 o.a, .int .i64 o.b, .int .i64 o.k]
def lP (e : En) : List Value := lN e.1 e.2
theorem lP_len (e : En) : (lP e).length = 5 := rfl
theorem lP_one (e : En) : (lP e).all oneCell = true := rfl

/-- what stays the same in a run -/
structure Env where
  S0 : MS
  mb : Nat
  wb : Nat
  pr : List Value
  iv : Value
  tv : Value
  fv : Value
  ev : Value
  rn : Int
  ops : Value
  code : List MOp
  ints : List Int
  dp : Int
  em : Value
def Lo (E : Env) (S : MS) : Prop := ∀ y, y < E.S0.n → y ≠ E.mb → y ≠ E.wb → S.m y = E.S0.m y
structure EnvOk (E : Env) : Prop where
  hops : ∀ S, Lo E S → ∀ (i : Nat) op, E.code[i]? = some op → ∃ p, iaSS 5 E.ops (.int .i64 i) = some p ∧ ldS (some 5) S p = some (.agg (opL op).toArray)
  hints : ∀ S, Lo E S → ∀ (i : Nat) n, E.ints[i]? = some n → ∃ p, iaSS 1 E.iv (.int .i64 i) = some p ∧ ldS none S p = some (.int .i64 n)
  mbn : E.mb < E.S0.n
  wbn : E.wb < E.S0.n
  ne : E.mb ≠ E.wb
  l4 : E.pr.length = 4
  small : E.code.length ≤ 1000

/-- the machine as plain data -/
structure PS where
  pc : Nat
  regs : List En
  fu : Int
  mp : List En

def mL (E : Env) (st row most : Int) : List Value := E.pr ++ [E.iv, E.tv, E.fv, E.ev, .pointer (some ⟨E.wb, 0, none⟩), .int .i64 st, .int .i64 row, .int .i64 most]
theorem mL_at (E : Env) (h : E.pr.length = 4) (st row most : Int) (i : Nat) : (mL E st row most)[4 + i]? = [E.iv, E.tv, E.fv, E.ev, .pointer (some ⟨E.wb, 0, none⟩), .int .i64 st, .int .i64 row, .int .i64 most][i]? := by
  unfold mL
  rw [List.getElem?_append_right (by omega)]
  congr 1; omega
theorem mL_set (E : Env) (h : E.pr.length = 4) (st row most : Int) (i : Nat) (v : Value) : (mL E st row most).set (4 + i) v = E.pr ++ [E.iv, E.tv, E.fv, E.ev, .pointer (some ⟨E.wb, 0, none⟩), .int .i64 st, .int .i64 row, .int .i64 most].set i v := by
  unfold mL
  rw [List.set_append_right _ _ (by omega)]
  congr 2; omega
theorem mL_len (E : Env) (h : E.pr.length = 4) (st row most : Int) : (mL E st row most).length = 12 := by unfold mL; simp [h]

/-- memory in a run -/
structure MM (E : Env) (s : PS) (S : MS) : Prop where
  n : E.S0.n + 3 ≤ S.n
  lo : Lo E S
  fb : S.m E.S0.n = some (.cells [.int .i64 E.rn, E.ops] 0)
  rc : S.m (E.S0.n + 1) = some (.cells zN 0)
  rb : S.m (E.S0.n + 2) = some (.cells (s.regs.flatMap lP) 5)
  mach : ∃ st row most : Int, S.m E.mb = some (.cells (mL E st row most) 0)
  world : ∃ mv, IsW S E.wb E.pr mv E.dp E.em s.fu ∧ IsSt S mv s.mp

theorem MM.old {E : Env} {s : PS} {S S' : MS} (ok : EnvOk E) (h : MM E s S) (wf : S.WF) (f : Old S S') : MM E s S' := by
  have hn := h.n
  have h1 := ok.mbn
  have h2 := ok.wbn
  obtain ⟨st, row, most, hm⟩ := h.mach
  obtain ⟨mv, hw, hs⟩ := h.world
  exact ⟨Nat.le_trans hn f.1, fun y hy a b => (f.2 y (by omega)).trans (h.lo y hy a b), (f.2 _ (by omega)).trans h.fb, (f.2 _ (by omega)).trans h.rc, (f.2 _ (by omega)).trans h.rb,
    ⟨st, row, most, (f.2 _ (by omega)).trans hm⟩, mv, ⟨hw.l4, (f.2 _ (by omega)).trans hw.m⟩, hs.old wf f⟩
/-- the machine's counts are written -/
theorem MM.wr {E : Env} {s : PS} {S : MS} (ok : EnvOk E) (h : MM E s S) (i : Nat) (hi : i = 5 ∨ i = 6 ∨ i = 7) (x : Int) :
    ∃ S1, stS 1 S (.pointer (some ⟨E.mb, 4 + i, none⟩)) (.int .i64 x) = some S1 ∧ MM E s S1 ∧ S1.n = S.n ∧ ∀ y, y ≠ E.mb → S1.m y = S.m y := by
  have hn := h.n
  have h1 := ok.mbn
  have h2 := ok.wbn
  obtain ⟨st, row, most, hm⟩ := h.mach
  obtain ⟨mv, hw, hs⟩ := h.world
  obtain ⟨S1, e1, g1, n1, k1⟩ := st_one (v := .int .i64 x) hm (off := 4 + i) (by rw [mL_len E ok.l4]; omega) rfl rfl
  refine ⟨S1, e1, ⟨by omega, fun y hy a b => (k1 y a).trans (h.lo y hy a b), (k1 _ (by omega)).trans h.fb, (k1 _ (by omega)).trans h.rc, (k1 _ (by omega)).trans h.rb, ?_, mv, ⟨hw.l4, (k1 _ (Ne.symm ok.ne)).trans hw.m⟩, ?_⟩, n1, k1⟩
  · rw [mL_set E ok.l4] at g1
    rcases hi with rfl | rfl | rfl
    · exact ⟨x, row, most, g1⟩
    · exact ⟨st, x, most, g1⟩
    · exact ⟨st, row, x, g1⟩
  · refine hs.keepE (by omega) fun y l es he hy => k1 y fun e => ?_
    subst e
    rw [hm] at hy
    cases hy
    rcases he with h | h <;> cases h
theorem MM.rd {E : Env} {s : PS} {S : MS} (ok : EnvOk E) (h : MM E s S) : ∃ st row most : Int, ldS none S (.pointer (some ⟨E.mb, 9, none⟩)) = some (.int .i64 st) ∧ ldS none S (.pointer (some ⟨E.mb, 10, none⟩)) = some (.int .i64 row) ∧ ldS none S (.pointer (some ⟨E.mb, 11, none⟩)) = some (.int .i64 most) := by
  obtain ⟨st, row, most, hm⟩ := h.mach
  refine ⟨st, row, most, ?_, ?_, ?_⟩
  · rw [ldS_ptr, list_of hm]; exact mL_at E ok.l4 st row most 5
  · rw [ldS_ptr, list_of hm]; exact mL_at E ok.l4 st row most 6
  · rw [ldS_ptr, list_of hm]; exact mL_at E ok.l4 st row most 7
theorem MM.rdw {E : Env} {s : PS} {S : MS} (ok : EnvOk E) (h : MM E s S) : ldS none S (.pointer (some ⟨E.mb, 8, none⟩)) = some (.pointer (some ⟨E.wb, 0, none⟩)) := by
  obtain ⟨st, row, most, hm⟩ := h.mach
  rw [ldS_ptr, list_of hm]; exact mL_at E ok.l4 st row most 4
theorem MM.rdi {E : Env} {s : PS} {S : MS} (ok : EnvOk E) (h : MM E s S) : ldS none S (.pointer (some ⟨E.mb, 4, none⟩)) = some E.iv := by
  obtain ⟨st, row, most, hm⟩ := h.mach
  rw [ldS_ptr, list_of hm]; exact mL_at E ok.l4 st row most 0

/-- temporaries in a run -/
structure MT (E : Env) (s : PS) (T : FT) : Prop where
  t0 : T.get 0 = .pointer (some ⟨E.mb, 0, none⟩)
  t4 : T.get 4 = .pointer (some ⟨E.S0.n, 0, none⟩)
  t6 : T.get 6 = .pointer (some ⟨E.S0.n + 1, 0, none⟩)
  t7 : T.get 7 = .bool false
  t8 : T.get 8 = .slice (some ⟨E.S0.n + 2, 0, none⟩) s.regs.length s.regs.length
  t9 : T.get 9 = .int .i64 (s.pc : Int)
/-- ahead of an instruction's own part -/
structure AtOp (E : Env) (s : PS) (op : MOp) (T : FT) (S : MS) : Prop where
  mm : MM E s S
  mt : MT E s T
  ob : ∃ ob, E.S0.n + 3 ≤ ob ∧ T.get 10 = .pointer (some ⟨ob, 0, none⟩) ∧ S.m ob = some (.cells (opL op) 0)
  t73 : T.get 73 = .int .i64 op.c

theorem pro82 {O : Hook} (hO : Fr O) {E : Env} (ok : EnvOk E) {s : PS} {op : MOp} (hop : E.code[s.pc]? = some op) {T : FT} {S : MS} (mm : MM E s S) (mt : MT E s T) {Q : AExit → FT → MS → Prop}
    (hq : ∀ T' S', AtOp E { s with pc := s.pc + 1 } op T' S' → MWp Tryz.prog O 555 blk82_2 T' S' fun x T1 S1 => match x with | .exit id' => if id' = 1 then Q .normal T1 S1 else Q (.exit id') T1 S1 | x => Q x T1 S1) : MWp Tryz.prog O 555 blk82_1 T S Q := by
  have hpc : s.pc < E.code.length := (List.getElem?_eq_some_iff.1 hop).1
  have hsm := ok.small
  obtain ⟨t0, t4, t6, t7, t8, t9⟩ := mt
  refine m_wf fun wf => m_block (m_seq (m_reg ?_))
  rw [reg82_4]
  obtain ⟨p, hp1, hp2⟩ := ok.hops S mm.lo _ _ hop
  have lf : ldS none S (.pointer (some ⟨E.S0.n, 1, none⟩)) = some E.ops := by rw [ldS_ptr, list_of mm.fb]; rfl
  simp (decide := true) only [FT.get_set, FT.setL, faS_ptr, nilS_ptr, pickS_bool, lenSl_of, cvInt_of, aminmax_max, abin_add, abin_sub, abin_eql, abin_neq, abin_lss, abin_leq, abin_gtr, abin_geq, aunary_not, Option.some.injEq, exists_eq_left', if_true, if_false, Nat.zero_add, Nat.add_zero, ptrTo, t4, t9, lf, hp1, hp2]
  obtain ⟨S1, e1, g1, n1, k1⟩ := st_all (n := 5) (cs := (opL op).toArray) (fresh_at S [.int .i64 0, .int .i64 0, .int .i64 0, .int .i64 0, .int .i64 0] 0) rfl rfl rfl
  refine ⟨S1, e1, ?_⟩
  have o1 : Old S S1 := ⟨by rw [n1]; exact Nat.le_succ _, fun y hy => by rw [k1 y (by omega)]; exact fresh_old _ _ _ (by omega)⟩
  have hob : E.S0.n + 3 ≤ S.n := mm.n
  have hmbn := ok.mbn
  have mm1 := mm.old ok wf o1
  have hb1 : S1.m S.n = some (.cells (opL op) 0) := g1
  refine m_seq (m_reg ?_)
  rw [reg82_5]
  have w1 : IntKind.i64.wrap ((s.pc : Int) + 1) = ((s.pc + 1 : Nat) : Int) := by rw [wrap_i64 (by omega) (by omega)]; rfl
  simp (decide := true) only [FT.get_set, FT.setL, faS_ptr, nilS_ptr, pickS_bool, lenSl_of, cvInt_of, aminmax_max, abin_add, abin_sub, abin_eql, abin_neq, abin_lss, abin_leq, abin_gtr, abin_geq, aunary_not, Option.some.injEq, exists_eq_left', if_true, if_false, Nat.zero_add, Nat.add_zero, ptrTo, t9, w1]
  obtain ⟨st, row, most, r1, r2, r3⟩ := mm1.rd ok
  refine m_seq (m_reg ?_)
  rw [reg82_6]
  simp (decide := true) only [FT.get_set, FT.setL, faS_ptr, nilS_ptr, pickS_bool, lenSl_of, cvInt_of, aminmax_max, abin_add, abin_sub, abin_eql, abin_neq, abin_lss, abin_leq, abin_gtr, abin_geq, aunary_not, Option.some.injEq, exists_eq_left', if_true, if_false, Nat.zero_add, Nat.add_zero, ptrTo, t0, r1]
  obtain ⟨S2, e2, mm2, n2, k2⟩ := mm1.wr ok 5 (.inl rfl) (IntKind.i64.wrap (st + 1))
  refine ⟨S2, e2, ?_⟩
  obtain ⟨st2, row2, most2, r1, r2, r3⟩ := mm2.rd ok
  refine m_seq (m_reg ?_)
  rw [reg82_7]
  simp (decide := true) only [FT.get_set, FT.setL, faS_ptr, nilS_ptr, pickS_bool, lenSl_of, cvInt_of, aminmax_max, abin_add, abin_sub, abin_eql, abin_neq, abin_lss, abin_leq, abin_gtr, abin_geq, aunary_not, Option.some.injEq, exists_eq_left', if_true, if_false, Nat.zero_add, Nat.add_zero, ptrTo, t0, r2]
  obtain ⟨S3, e3, mm3, n3, k3⟩ := mm2.wr ok 6 (.inr (.inl rfl)) (IntKind.i64.wrap (row2 + 1))
  refine ⟨S3, e3, ?_⟩
  have hb3 : S3.m S.n = some (.cells (opL op) 0) := by rw [k3 _ (by omega), k2 _ (by omega)]; exact hb1
  have lo3 : ldS none S3 (.pointer (some ⟨S.n, 0, none⟩)) = some (.int .i64 op.c) := by rw [ldS_ptr, list_of hb3]; rfl
  refine m_seq (m_seq (m_reg ?_))
  rw [reg82_8]
  simp (decide := true) only [FT.get_set, FT.setL, faS_ptr, nilS_ptr, pickS_bool, lenSl_of, cvInt_of, aminmax_max, abin_add, abin_sub, abin_eql, abin_neq, abin_lss, abin_leq, abin_gtr, abin_geq, aunary_not, Option.some.injEq, exists_eq_left', if_true, if_false, Nat.zero_add, Nat.add_zero, ptrTo, lo3]
  have rest : ∀ (T' : FT) (S' : MS), MM E s S' → S'.m S.n = some (.cells (opL op) 0) → T'.get 0 = .pointer (some ⟨E.mb, 0, none⟩) → T'.get 4 = .pointer (some ⟨E.S0.n, 0, none⟩) → T'.get 6 = .pointer (some ⟨E.S0.n + 1, 0, none⟩) → T'.get 7 = .bool false → T'.get 8 = .slice (some ⟨E.S0.n + 2, 0, none⟩) s.regs.length s.regs.length → T'.get 9 = .int .i64 ((s.pc + 1 : Nat) : Int) → T'.get 10 = .pointer (some ⟨S.n, 0, none⟩) →
      MWp Tryz.prog O 555 (.seq (.region 10 (ro 82 10) true) (.seq (.region 11 (ro 82 11) false) blk82_2)) T' S' fun x T1 S1 => match x with | .exit id' => if id' = 1 then Q .normal T1 S1 else Q (.exit id') T1 S1 | x => Q x T1 S1 := by
    intro T' S' mm' hb' t0 t4 t6 t7 t8 t9 t10
    obtain ⟨st, row, most, r1, r2, r3⟩ := mm'.rd ok
    refine m_seq (m_draw ?_)
    rw [reg82_10]
    simp (decide := true) only [FT.get_set, FT.setL, faS_ptr, nilS_ptr, pickS_bool, lenSl_of, cvInt_of, aminmax_max, abin_add, abin_sub, abin_eql, abin_neq, abin_lss, abin_leq, abin_gtr, abin_geq, aunary_not, Option.some.injEq, exists_eq_left', if_true, if_false, Nat.zero_add, Nat.add_zero, ptrTo, t0, r2, r3]
    obtain ⟨S5, e5, mm5, n5, k5⟩ := mm'.wr ok 7 (.inr (.inr rfl)) (if row > most then row else most)
    refine ⟨S5, e5, ?_⟩
    have hb5 : S5.m S.n = some (.cells (opL op) 0) := by rw [k5 _ (by omega)]; exact hb'
    have lo5 : ldS none S5 (.pointer (some ⟨S.n, 0, none⟩)) = some (.int .i64 op.c) := by rw [ldS_ptr, list_of hb5]; rfl
    refine m_seq (m_reg ?_)
    rw [reg82_11]
    simp (decide := true) only [FT.get_set, FT.setL, faS_ptr, nilS_ptr, pickS_bool, lenSl_of, cvInt_of, aminmax_max, abin_add, abin_sub, abin_eql, abin_neq, abin_lss, abin_leq, abin_gtr, abin_geq, aunary_not, Option.some.injEq, exists_eq_left', if_true, if_false, Nat.zero_add, Nat.add_zero, ptrTo, t10, lo5]
    refine hq _ _ ⟨⟨mm5.n, mm5.lo, mm5.fb, mm5.rc, mm5.rb, mm5.mach, mm5.world⟩, ⟨?_, ?_, ?_, ?_, ?_, ?_⟩, ⟨S.n, hob, ?_, hb5⟩, ?_⟩
    · simp [SV, t0]
    · simp [SV, t4]
    · simp [SV, t6]
    · simp [SV, t7]
    · simp [SV, t8]
    · simp [SV, t9]
    · simp [SV, t10]
    · simp [SV]
  refine m_cond (t := (op.c == 35)) (by simp [evalT, SV]) (fun _ => m_reg ?_) (fun _ => m_skip ?_)
  · rw [reg82_9]
    simp (decide := true) only [FT.get_set, FT.setL, faS_ptr, nilS_ptr, pickS_bool, lenSl_of, cvInt_of, aminmax_max, abin_add, abin_sub, abin_eql, abin_neq, abin_lss, abin_leq, abin_gtr, abin_geq, aunary_not, Option.some.injEq, exists_eq_left', if_true, if_false, Nat.zero_add, Nat.add_zero, ptrTo, t0]
    obtain ⟨S4, e4, mm4, n4, k4⟩ := mm3.wr ok 6 (.inr (.inl rfl)) 0
    refine ⟨S4, e4, ?_⟩
    exact rest _ _ mm4 (by rw [k4 _ (by omega)]; exact hb3) (by simp [SV, t0]) (by simp [SV, t4]) (by simp [SV, t6]) (by simp [SV, t7]) (by simp [SV, t8]) (by simp [SV]) (by simp [SV])
  · exact rest _ _ mm3 hb3 (by simp [SV, t0]) (by simp [SV, t4]) (by simp [SV, t6]) (by simp [SV, t7]) (by simp [SV, t8]) (by simp [SV]) (by simp [SV])
end Go.Proofs.YtfgbeecipklkdaaGreat

