/-
  The walk through the outbox's code: what its functions do to memory, part Bn2. Nothing is asked.
-/
import Derived.Test.YtikdcdccpbnaeaaBn1
set_option linter.all false
namespace Go.Proofs.Ytikdcdccpbnaeaa
open Go Go.Ag
set_option linter.unusedVariables false
set_option maxRecDepth 100000

def JA19 (S0 : MS) (n : Int) (ls : List Em) (sb lb : Nat) (T : FT) (k : Nat) (S : MS) : Prop :=
  S.m lb = some (.loop ⟨.ready, none, ⟨T, 13⟩, [7], (.region 2 (ro 19 2) false), blk19_1⟩) ∧ (∃ v, S.m sb = some (.cells [v] 0) ∧ SlF emL 2 S (lb + 1) v (ab n (ls.take k))) ∧ lb + 1 ≤ S.n ∧ ∀ x, x < S0.n → S.m x = S0.m x

theorem range19 {S0 S : MS} {sb b1 b2 c B : Nat} {n next : Int} {w : Value} {ls : List Em} {T : FT} (hls : ls.length ≤ 100000) (wf0 : S0.WF) (wf : S.WF) (hold : Old S0 S) (hsb0 : S0.n ≤ sb) (hb1 : S0.m b1 = some (.cells [.pointer (some ⟨c, 0, none⟩)] 0)) (hb2 : S0.m b2 = some (.cells [.int .i64 n] 0)) (hc : IsB S0 c B next w ls)
    (t6 : T.get 6 = .func (.func 18) #[] #[.pointer (some ⟨b1, 0, none⟩), .pointer (some ⟨b2, 0, none⟩)]) (t2 : T.get 2 = .pointer (some ⟨sb, 0, none⟩)) (hsb : S.m sb = some (.cells [.slice none 0 0] 0)) :
    MWp Try.prog O 13 blk19_0 T S (fun x T' S' => x = .normal ∧ T' = T ∧ Old S0 S' ∧ ∃ v, S'.m sb = some (.cells [v] 0) ∧ SlF emL 2 S' (S.n + 1) v (ab n ls)) := by
  unfold blk19_0
  refine m_block (m_rangeFunc rfl ?_)
  have e6 : evalT T (.tmp 6) = .func (.func 18) #[] #[.pointer (some ⟨b1, 0, none⟩), .pointer (some ⟨b2, 0, none⟩)] := t6
  rw [e6]
  show CallM Try.prog O 18 [.func (.yield S.n) #[] #[], .pointer (some ⟨b1, 0, none⟩), .pointer (some ⟨b2, 0, none⟩)] _ _
  have l1 := wf _ _ hsb
  have hn := hold.1
  have hpu : ∀ x k, x ≠ S.n → (S.push k).m x = S.m x := fun x k hx => by rw [push_m, if_neg hx]
  have abstep : ∀ k x, ls[k]? = some x → x.1 > n → ab n (ls.take (k + 1)) = ab n (ls.take k) ++ [x] := fun k x hx hgt => by
    unfold ab
    rw [List.take_add_one, hx, List.filter_append]
    simp [hgt]
  have abskip : ∀ k x, ls[k]? = some x → ¬ x.1 > n → ab n (ls.take (k + 1)) = ab n (ls.take k) := fun k x hx hgt => by
    unfold ab
    rw [List.take_add_one, hx, List.filter_append]
    simp at hgt
    simp; omega
  refine CallM.mono (above18 (b1 := b1) (b2 := b2) (b := c) (B := B) (n := n) (next := next) (w := w) (ls := ls) (l := S.n) hls (JA19 S0 n ls sb S.n T) ?_ ?_ ?_ ?_ ?_) ?_
  · rintro k S' ⟨j0, j1, j2, j3⟩
    exact ⟨(j3 _ (wf0 _ _ hb1)).trans hb1, (j3 _ (wf0 _ _ hb2)).trans hb2, (j3 _ (wf0 _ _ hc.c)).trans hc.c, hc.w.keep fun y k hy => j3 y (wf0 y k hy), hc.lt⟩
  · rintro k S1 S2 ⟨j0, ⟨v, j1, j1'⟩, j2, j3⟩ wf1 hk
    exact ⟨(hk.2 _ (by omega)).trans j0, ⟨v, (hk.2 _ (by omega)).trans j1, j1'.keep fun y k' hy => hk.2 y (wf1 y k' hy)⟩, by have := hk.1; omega, fun x hx => (hk.2 x (by omega)).trans (j3 x hx)⟩
  · rintro k S1 x ⟨j0, ⟨v, j1, j1'⟩, j2, j3⟩ wf1 hx hxt
    refine roundM_body (T := T.set (.agg (emL x).toArray) 7) j0 rfl ?_
    refine m_reg ?_
    rw [reg19_2]
    obtain ⟨S2, s1, s2, s3, s4⟩ := st_all (n := 2) (cs := (emL x).toArray) (fresh_at S1 [.int .i64 0, .string ⟨⟨[]⟩⟩] 0) rfl rfl rfl
    simp (decide := true) only [FT.get_set, FT.setL, faS_ptr, nilS_ptr, nilS_func, nilS_yield, pickS_bool, ldS_ptr, list_cells, list_ro, partS_none, lenSl_of, lenStr_of, cvInt_of, aminmax_max, aminmax_min, abin_add, abin_sub, abin_mul, abin_eql, abin_neq, abin_lss, abin_leq, abin_gtr, abin_geq, aunary_not, aextract, Option.some.injEq, Prod.mk.injEq, Value.bool.injEq, exists_eq_left', exists_and_left, and_assoc, decide_eq_true_eq, decide_eq_false_iff_not, if_true, if_false, Nat.zero_add, Nat.add_zero, Option.bind_some, true_and, and_true, forall_const, true_implies, Bool.not_eq_true, Bool.false_eq_true, false_implies, ite_self, Nat.mul_one, ptrTo]
    refine ⟨S2, s1, ?_⟩
    have f2 : Old S1 S2 := ⟨by rw [s3, fresh_n]; omega, fun y hy => by rw [s4 y (by omega), fresh_old _ _ _ (by omega)]⟩
    have hn2 : S2.n = S1.n + 1 := s3
    refine ⟨_, (f2.2 _ (by omega)).trans j0, rfl, ?_⟩
    have nz : S.n ≠ S1.n := by omega
    unfold blk19_1
    refine m_block (m_wf fun wf3 => m_reg ?_)
    rw [reg19_3]
    generalize hL : (⟨.busy, none, ⟨T, 13⟩, [7], (.region 2 (ro 19 2) false), (.block 1 (.region 3 (ro 19 3) false))⟩ : ALoop) = L at *
    have g : ∀ y, y ≠ S.n → (S2.set S.n (.loop L)).m y = S2.m y := fun y hy => by rw [set_m, if_neg hy]
    have hsb3 : (S2.set S.n (.loop L)).m sb = some (.cells [v] 0) := by rw [g _ (by omega), f2.2 _ (by omega)]; exact j1
    have hx3 : (S2.set S.n (.loop L)).m S1.n = some (.cells (emL x) 0) := by rw [g _ (by omega)]; exact s2
    have hv3 : SlF emL 2 (S2.set S.n (.loop L)) (S.n + 1) v (ab n (ls.take k)) := j1'.keep1 fun y k' hy hyk => by
      rw [g y (fun e => by subst e; exact hy (j1'.av (Nat.lt_succ_self _))), f2.2 y (wf1 y k' hyk)]
    have wf4 := wf_fresh' wf3 (emL x) 2
    have hv4 := hv3.keep (S' := (S2.set S.n (.loop L)).fresh (emL x) 2) fun y k' hy => fresh_old _ _ _ (Nat.ne_of_lt (wf3 y k' hy))
    have hlk : (ab n (ls.take k)).length ≤ 100000 := by
      refine Nat.le_trans (List.length_filter_le _ _) ?_
      rw [List.length_take]; omega
    obtain ⟨v', S5, a1, a2, a3, a4, a5⟩ := hv4.app2 (bytes := 24) (z := [.int .i64 0, .string ⟨⟨[]⟩⟩]) em_len em_one (by decide) (x := .slice (some ⟨(S2.set S.n (.loop L)).n, 0, none⟩) 1 1) (new := [x]) wf4 (by simp only [fresh_n, set_n]; omega) rfl (firstEm _ _) (by simp only [List.length_singleton]; omega) (by simp only [List.length_singleton]; omega)
    have hsb5 : S5.m sb = some (.cells [v] 0) := by rw [a4 sb (by simp only [fresh_n, set_n]; omega) (hv4.av (by omega)), fresh_old _ _ _ (by simp only [set_n]; omega)]; exact hsb3
    obtain ⟨S6, u1, u2, u3, u4⟩ := st_one (off := 0) (v := v') hsb5 (by simp) (SlF.one a2).1 (SlF.one a2).2
    have hS1n : S1.n = (S2.set S.n (.loop L)).n - 1 := by simp only [set_n]; omega
    simp (decide := true) only [FT.get_set, FT.setL, faS_ptr, nilS_ptr, nilS_func, nilS_yield, pickS_bool, ldS_ptr, list_cells, list_ro, partS_none, lenSl_of, lenStr_of, cvInt_of, aminmax_max, aminmax_min, abin_add, abin_sub, abin_mul, abin_eql, abin_neq, abin_lss, abin_leq, abin_gtr, abin_geq, aunary_not, aextract, Option.some.injEq, Prod.mk.injEq, Value.bool.injEq, exists_eq_left', exists_and_left, and_assoc, decide_eq_true_eq, decide_eq_false_iff_not, if_true, if_false, Nat.zero_add, Nat.add_zero, Option.bind_some, true_and, and_true, forall_const, true_implies, Bool.not_eq_true, Bool.false_eq_true, false_implies, ite_self, Nat.mul_one, t2, list_of hsb3, list_of hx3, List.getElem?_cons_zero, partS_em, bs_em, a1]
    refine ⟨S6, u1, ?_⟩
    have lo : ∀ y, y < S.n + 1 → y ≠ sb → S6.m y = (S2.set S.n (.loop L)).m y := fun y hy hne => by rw [u4 y hne, a4 y (by simp only [fresh_n, set_n]; omega) (hv4.av hy), fresh_old _ _ _ (by simp only [set_n]; omega)]
    refine ⟨_, (lo S.n (by omega) (by omega)).trans (by rw [set_m, if_pos rfl]), ?_, ⟨v', ?_, ?_⟩, ?_, fun y hy => ?_⟩
    · rw [set_m, if_pos rfl, ← hL]; rfl
    · rw [set_m, if_neg (by omega)]; exact u2
    · rw [abstep k x hx hxt]
      refine a2.keep1 fun y k' hy hyk => ?_
      rw [set_m, if_neg (fun e => by subst e; exact hy (a2.av (Nat.lt_succ_self _))), u4 y (fun e => by subst e; exact hy (a2.av (by omega)))]
    · have := a3; simp only [fresh_n, set_n] at this ⊢; omega
    · rw [set_m, if_neg (by omega), lo y (by omega) (by omega), g y (by omega), f2.2 y (by omega)]; exact j3 y hy
  · rintro k S1 x ⟨j0, ⟨v, j1, j1'⟩, j2, j3⟩ hx hxt
    exact ⟨j0, ⟨v, j1, by rw [abskip k x hx hxt]; exact j1'⟩, j2, j3⟩
  · exact ⟨by rw [push_m, if_pos rfl], ⟨.slice none 0 0, by rw [hpu _ _ (by omega)]; exact hsb, by rw [List.take_zero]; exact .non⟩, by rw [push_n]; omega, fun x hx => by rw [hpu _ _ (by omega)]; exact hold.2 x hx⟩
  · rintro _ S' ⟨j0, ⟨v, j1, j1'⟩, j2, j3⟩
    rw [List.take_length] at j1'
    refine ⟨_, j0, by simp, rfl, rfl, ⟨by simp only [set_n]; omega, fun x hx => by rw [set_m, if_neg (by omega)]; exact j3 x hx⟩, v, by rw [set_m, if_neg (by omega)]; exact j1, ?_⟩
    exact j1'.keep1 fun y k' hy hyk => by rw [set_m, if_neg (fun e => by subst e; exact hy (j1'.av (Nat.lt_succ_self _)))]

def JA9 (S0 : MS) (n : Int) (ls : List Em) (sb lb : Nat) (T : FT) (k : Nat) (S : MS) : Prop :=
  S.m lb = some (.loop ⟨.ready, none, ⟨T, 13⟩, [7], (.region 3 (ro 9 3) false), blk9_1⟩) ∧ (∃ v, S.m sb = some (.cells [v] 0) ∧ SlF emL 2 S (lb + 1) v (ab n (ls.take k))) ∧ lb + 1 ≤ S.n ∧ ∀ x, x < S0.n → x ≠ sb → S.m x = S0.m x

theorem range9 {S0 S : MS} {sb b1 b2 c B : Nat} {n next : Int} {w : Value} {ls : List Em} {T : FT} (hls : ls.length ≤ 100000) (wf0 : S0.WF) (wf : S.WF) (hold : Old S0 S) (hsb0 : b1 ≠ sb ∧ b2 ≠ sb ∧ c ≠ sb ∧ Av w sb) (hb1 : S0.m b1 = some (.cells [.pointer (some ⟨c, 0, none⟩)] 0)) (hb2 : S0.m b2 = some (.cells [.int .i64 n] 0)) (hc : IsB S0 c B next w ls)
    (t6 : T.get 6 = .func (.func 18) #[] #[.pointer (some ⟨b1, 0, none⟩), .pointer (some ⟨b2, 0, none⟩)]) (t2 : T.get 3 = .pointer (some ⟨sb, 0, none⟩)) (hsb : S.m sb = some (.cells [.slice none 0 0] 0)) :
    MWp Try.prog O 13 blk9_0 T S (fun x T' S' => x = .normal ∧ T' = T ∧ (S0.n ≤ S'.n ∧ ∀ y, y < S0.n → y ≠ sb → S'.m y = S0.m y) ∧ ∃ v, S'.m sb = some (.cells [v] 0) ∧ SlF emL 2 S' (S.n + 1) v (ab n ls)) := by
  unfold blk9_0
  refine m_block (m_rangeFunc rfl ?_)
  have e6 : evalT T (.tmp 6) = .func (.func 18) #[] #[.pointer (some ⟨b1, 0, none⟩), .pointer (some ⟨b2, 0, none⟩)] := t6
  rw [e6]
  show CallM Try.prog O 18 [.func (.yield S.n) #[] #[], .pointer (some ⟨b1, 0, none⟩), .pointer (some ⟨b2, 0, none⟩)] _ _
  have l1 := wf _ _ hsb
  have hn := hold.1
  have hpu : ∀ x k, x ≠ S.n → (S.push k).m x = S.m x := fun x k hx => by rw [push_m, if_neg hx]
  have abstep : ∀ k x, ls[k]? = some x → x.1 > n → ab n (ls.take (k + 1)) = ab n (ls.take k) ++ [x] := fun k x hx hgt => by
    unfold ab
    rw [List.take_add_one, hx, List.filter_append]
    simp [hgt]
  have abskip : ∀ k x, ls[k]? = some x → ¬ x.1 > n → ab n (ls.take (k + 1)) = ab n (ls.take k) := fun k x hx hgt => by
    unfold ab
    rw [List.take_add_one, hx, List.filter_append]
    simp at hgt
    simp; omega
  refine CallM.mono (above18 (b1 := b1) (b2 := b2) (b := c) (B := B) (n := n) (next := next) (w := w) (ls := ls) (l := S.n) hls (JA9 S0 n ls sb S.n T) ?_ ?_ ?_ ?_ ?_) ?_
  · rintro k S' ⟨j0, j1, j2, j3⟩
    exact ⟨(j3 _ (wf0 _ _ hb1) hsb0.1).trans hb1, (j3 _ (wf0 _ _ hb2) hsb0.2.1).trans hb2, (j3 _ (wf0 _ _ hc.c) hsb0.2.2.1).trans hc.c, hc.w.keep1 fun y k hny hy => j3 y (wf0 y k hy) (fun e => by subst e; exact hny hsb0.2.2.2), hc.lt⟩
  · rintro k S1 S2 ⟨j0, ⟨v, j1, j1'⟩, j2, j3⟩ wf1 hk
    exact ⟨(hk.2 _ (by omega)).trans j0, ⟨v, (hk.2 _ (by omega)).trans j1, j1'.keep fun y k' hy => hk.2 y (wf1 y k' hy)⟩, by have := hk.1; omega, fun x hx hne => (hk.2 x (by omega)).trans (j3 x hx hne)⟩
  · rintro k S1 x ⟨j0, ⟨v, j1, j1'⟩, j2, j3⟩ wf1 hx hxt
    refine roundM_body (T := T.set (.agg (emL x).toArray) 7) j0 rfl ?_
    refine m_reg ?_
    rw [reg9_3]
    obtain ⟨S2, s1, s2, s3, s4⟩ := st_all (n := 2) (cs := (emL x).toArray) (fresh_at S1 [.int .i64 0, .string ⟨⟨[]⟩⟩] 0) rfl rfl rfl
    simp (decide := true) only [FT.get_set, FT.setL, faS_ptr, nilS_ptr, nilS_func, nilS_yield, pickS_bool, ldS_ptr, list_cells, list_ro, partS_none, lenSl_of, lenStr_of, cvInt_of, aminmax_max, aminmax_min, abin_add, abin_sub, abin_mul, abin_eql, abin_neq, abin_lss, abin_leq, abin_gtr, abin_geq, aunary_not, aextract, Option.some.injEq, Prod.mk.injEq, Value.bool.injEq, exists_eq_left', exists_and_left, and_assoc, decide_eq_true_eq, decide_eq_false_iff_not, if_true, if_false, Nat.zero_add, Nat.add_zero, Option.bind_some, true_and, and_true, forall_const, true_implies, Bool.not_eq_true, Bool.false_eq_true, false_implies, ite_self, Nat.mul_one, ptrTo]
    refine ⟨S2, s1, ?_⟩
    have f2 : Old S1 S2 := ⟨by rw [s3, fresh_n]; omega, fun y hy => by rw [s4 y (by omega), fresh_old _ _ _ (by omega)]⟩
    have hn2 : S2.n = S1.n + 1 := s3
    refine ⟨_, (f2.2 _ (by omega)).trans j0, rfl, ?_⟩
    have nz : S.n ≠ S1.n := by omega
    unfold blk9_1
    refine m_block (m_wf fun wf3 => m_reg ?_)
    rw [reg9_4]
    generalize hL : (⟨.busy, none, ⟨T, 13⟩, [7], (.region 3 (ro 9 3) false), (.block 1 (.region 4 (ro 9 4) false))⟩ : ALoop) = L at *
    have g : ∀ y, y ≠ S.n → (S2.set S.n (.loop L)).m y = S2.m y := fun y hy => by rw [set_m, if_neg hy]
    have hsb3 : (S2.set S.n (.loop L)).m sb = some (.cells [v] 0) := by rw [g _ (by omega), f2.2 _ (by omega)]; exact j1
    have hx3 : (S2.set S.n (.loop L)).m S1.n = some (.cells (emL x) 0) := by rw [g _ (by omega)]; exact s2
    have hv3 : SlF emL 2 (S2.set S.n (.loop L)) (S.n + 1) v (ab n (ls.take k)) := j1'.keep1 fun y k' hy hyk => by
      rw [g y (fun e => by subst e; exact hy (j1'.av (Nat.lt_succ_self _))), f2.2 y (wf1 y k' hyk)]
    have wf4 := wf_fresh' wf3 (emL x) 2
    have hv4 := hv3.keep (S' := (S2.set S.n (.loop L)).fresh (emL x) 2) fun y k' hy => fresh_old _ _ _ (Nat.ne_of_lt (wf3 y k' hy))
    have hlk : (ab n (ls.take k)).length ≤ 100000 := by
      refine Nat.le_trans (List.length_filter_le _ _) ?_
      rw [List.length_take]; omega
    obtain ⟨v', S5, a1, a2, a3, a4, a5⟩ := hv4.app2 (bytes := 24) (z := [.int .i64 0, .string ⟨⟨[]⟩⟩]) em_len em_one (by decide) (x := .slice (some ⟨(S2.set S.n (.loop L)).n, 0, none⟩) 1 1) (new := [x]) wf4 (by simp only [fresh_n, set_n]; omega) rfl (firstEm _ _) (by simp only [List.length_singleton]; omega) (by simp only [List.length_singleton]; omega)
    have hsb5 : S5.m sb = some (.cells [v] 0) := by rw [a4 sb (by simp only [fresh_n, set_n]; omega) (hv4.av (by omega)), fresh_old _ _ _ (by simp only [set_n]; omega)]; exact hsb3
    obtain ⟨S6, u1, u2, u3, u4⟩ := st_one (off := 0) (v := v') hsb5 (by simp) (SlF.one a2).1 (SlF.one a2).2
    have hS1n : S1.n = (S2.set S.n (.loop L)).n - 1 := by simp only [set_n]; omega
    simp (decide := true) only [FT.get_set, FT.setL, faS_ptr, nilS_ptr, nilS_func, nilS_yield, pickS_bool, ldS_ptr, list_cells, list_ro, partS_none, lenSl_of, lenStr_of, cvInt_of, aminmax_max, aminmax_min, abin_add, abin_sub, abin_mul, abin_eql, abin_neq, abin_lss, abin_leq, abin_gtr, abin_geq, aunary_not, aextract, Option.some.injEq, Prod.mk.injEq, Value.bool.injEq, exists_eq_left', exists_and_left, and_assoc, decide_eq_true_eq, decide_eq_false_iff_not, if_true, if_false, Nat.zero_add, Nat.add_zero, Option.bind_some, true_and, and_true, forall_const, true_implies, Bool.not_eq_true, Bool.false_eq_true, false_implies, ite_self, Nat.mul_one, t2, list_of hsb3, list_of hx3, List.getElem?_cons_zero, partS_em, bs_em, a1]
    refine ⟨S6, u1, ?_⟩
    have lo : ∀ y, y < S.n + 1 → y ≠ sb → S6.m y = (S2.set S.n (.loop L)).m y := fun y hy hne => by rw [u4 y hne, a4 y (by simp only [fresh_n, set_n]; omega) (hv4.av hy), fresh_old _ _ _ (by simp only [set_n]; omega)]
    refine ⟨_, (lo S.n (by omega) (by omega)).trans (by rw [set_m, if_pos rfl]), ?_, ⟨v', ?_, ?_⟩, ?_, fun y hy hne => ?_⟩
    · rw [set_m, if_pos rfl, ← hL]; rfl
    · rw [set_m, if_neg (by omega)]; exact u2
    · rw [abstep k x hx hxt]
      refine a2.keep1 fun y k' hy hyk => ?_
      rw [set_m, if_neg (fun e => by subst e; exact hy (a2.av (Nat.lt_succ_self _))), u4 y (fun e => by subst e; exact hy (a2.av (by omega)))]
    · have := a3; simp only [fresh_n, set_n] at this ⊢; omega
    · rw [set_m, if_neg (by omega), lo y (by omega) hne, g y (by omega), f2.2 y (by omega)]; exact j3 y hy hne
  · rintro k S1 x ⟨j0, ⟨v, j1, j1'⟩, j2, j3⟩ hx hxt
    exact ⟨j0, ⟨v, j1, by rw [abskip k x hx hxt]; exact j1'⟩, j2, j3⟩
  · exact ⟨by rw [push_m, if_pos rfl], ⟨.slice none 0 0, by rw [hpu _ _ (by omega)]; exact hsb, by rw [List.take_zero]; exact .non⟩, by rw [push_n]; omega, fun x hx _ => by rw [hpu _ _ (by omega)]; exact hold.2 x hx⟩
  · rintro _ S' ⟨j0, ⟨v, j1, j1'⟩, j2, j3⟩
    rw [List.take_length] at j1'
    refine ⟨_, j0, by simp, rfl, rfl, ⟨by simp only [set_n]; omega, fun x hx hne => by rw [set_m, if_neg (by omega)]; exact j3 x hx hne⟩, v, by rw [set_m, if_neg (by omega)]; exact j1, ?_⟩
    exact j1'.keep1 fun y k' hy hyk => by rw [set_m, if_neg (fun e => by subst e; exact hy (j1'.av (Nat.lt_succ_self _)))]

theorem collect15 {S : MS} {b1 b2 c B : Nat} {n next : Int} {w : Value} {ls : List Em} (hls : ls.length ≤ 100000) (hb1 : S.m b1 = some (.cells [.pointer (some ⟨c, 0, none⟩)] 0)) (hb2 : S.m b2 = some (.cells [.int .i64 n] 0)) (hc : IsB S c B next w ls)
    {Q : Value → MS → Prop} (hq : ∀ v S', Old S S' → SlF emL 2 S' S.n v (ab n ls) → Q v S') :
    CallM Try.prog O 15 [.func (.func 18) #[] #[.pointer (some ⟨b1, 0, none⟩), .pointer (some ⟨b2, 0, none⟩)]] S Q := by
  refine callM_wf fun wf => ?_
  refine callM_body (fnIs is15 body15 res15) (O_none (by decide)) (by simp) ?_
  refine m_seq (m_reg ?_)
  rw [reg15_0]
  refine m_seq (m_reg ?_)
  rw [reg15_1]
  simp (decide := true) only [FT.get_set, FT.setL, faS_ptr, nilS_ptr, nilS_func, nilS_yield, pickS_bool, ldS_ptr, list_cells, list_ro, partS_none, lenSl_of, lenStr_of, cvInt_of, aminmax_max, aminmax_min, abin_add, abin_sub, abin_mul, abin_eql, abin_neq, abin_lss, abin_leq, abin_gtr, abin_geq, aunary_not, aextract, Option.some.injEq, Prod.mk.injEq, Value.bool.injEq, exists_eq_left', exists_and_left, and_assoc, decide_eq_true_eq, decide_eq_false_iff_not, if_true, if_false, Nat.zero_add, Nat.add_zero, Option.bind_some, true_and, and_true, forall_const, true_implies, Bool.not_eq_true, Bool.false_eq_true, false_implies, ite_self, Nat.mul_one, ]
  refine callM_body (fnIs is19 body19 res19) (O_none (by decide)) (by simp) ?_
  refine m_seq (m_reg ?_)
  rw [reg19_0]
  have hcl : (Value.cells (.slice none 0 0)).toList = [.slice none 0 0] := rfl
  simp (decide := true) only [FT.get_set, FT.setL, faS_ptr, nilS_ptr, nilS_func, nilS_yield, pickS_bool, ldS_ptr, list_cells, list_ro, partS_none, lenSl_of, lenStr_of, cvInt_of, aminmax_max, aminmax_min, abin_add, abin_sub, abin_mul, abin_eql, abin_neq, abin_lss, abin_leq, abin_gtr, abin_geq, aunary_not, aextract, Option.some.injEq, Prod.mk.injEq, Value.bool.injEq, exists_eq_left', exists_and_left, and_assoc, decide_eq_true_eq, decide_eq_false_iff_not, if_true, if_false, Nat.zero_add, Nat.add_zero, Option.bind_some, true_and, and_true, forall_const, true_implies, Bool.not_eq_true, Bool.false_eq_true, false_implies, ite_self, Nat.mul_one, hcl, ptrTo]
  have hsb := fresh_at S [.slice none 0 0] 0
  have f1 := old_fresh S [.slice none 0 0] 0
  have wf1 := wf_fresh' wf [.slice none 0 0] 0
  refine m_seq (m_seq (m_reg ?_))
  rw [reg19_1]
  refine MWp.mono (range19 (S0 := S) (sb := S.n) (b1 := b1) (b2 := b2) (c := c) (B := B) (n := n) (next := next) (w := w) (ls := ls) hls wf wf1 f1 (Nat.le_refl _) hb1 hb2 hc ?_ ?_ hsb) ?_
  · simp [FT.get_set, FT.setL, faS_ptr, nilS_ptr, nilS_func, nilS_yield, pickS_bool, ldS_ptr, list_cells, list_ro, partS_none, lenSl_of, lenStr_of, cvInt_of, aminmax_max, aminmax_min, abin_add, abin_sub, abin_mul, abin_eql, abin_neq, abin_lss, abin_leq, abin_gtr, abin_geq, aunary_not, aextract]
  · simp [FT.get_set, FT.setL, faS_ptr, nilS_ptr, nilS_func, nilS_yield, pickS_bool, ldS_ptr, list_cells, list_ro, partS_none, lenSl_of, lenStr_of, cvInt_of, aminmax_max, aminmax_min, abin_add, abin_sub, abin_mul, abin_eql, abin_neq, abin_lss, abin_leq, abin_gtr, abin_geq, aunary_not, aextract]
  rintro _ T' S' ⟨rfl, rfl, hold, v, hv1, hv2⟩
  simp only
  refine m_seq (m_reg ?_)
  rw [reg19_4]
  simp (decide := true) only [FT.get_set, FT.setL, faS_ptr, nilS_ptr, nilS_func, nilS_yield, pickS_bool, ldS_ptr, list_cells, list_ro, partS_none, lenSl_of, lenStr_of, cvInt_of, aminmax_max, aminmax_min, abin_add, abin_sub, abin_mul, abin_eql, abin_neq, abin_lss, abin_leq, abin_gtr, abin_geq, aunary_not, aextract, Option.some.injEq, Prod.mk.injEq, Value.bool.injEq, exists_eq_left', exists_and_left, and_assoc, decide_eq_true_eq, decide_eq_false_iff_not, if_true, if_false, Nat.zero_add, Nat.add_zero, Option.bind_some, true_and, and_true, forall_const, true_implies, Bool.not_eq_true, Bool.false_eq_true, false_implies, ite_self, Nat.mul_one, list_of hv1, List.getElem?_cons_zero]
  refine m_ret ?_
  simp only [resM, oneOrTuple, FT.get_set]
  refine ⟨trivial, _, rfl, ?_⟩
  refine m_ret ?_
  simp [resM, FT.get_set, FT.setL, faS_ptr, nilS_ptr, nilS_func, nilS_yield, pickS_bool, ldS_ptr, list_cells, list_ro, partS_none, lenSl_of, lenStr_of, cvInt_of, aminmax_max, aminmax_min, abin_add, abin_sub, abin_mul, abin_eql, abin_neq, abin_lss, abin_leq, abin_gtr, abin_geq, aunary_not, aextract, oneOrTuple]
  exact hq v S' hold (hv2.weaken (by simp only [fresh_n]; omega))

/-- Wait -/
theorem wait9 {S : MS} {b B : Nat} {next : Int} {w : Value} {ls : List Em} (hls : ls.length ≤ 100000) (hc : IsB S b B next w ls) (hpos : ∀ p ∈ ls, 1 ≤ p.1) {Q : Value → MS → Prop} (hq : ∀ v S', Old S S' → SlF emL 2 S' S.n v ls → Q v S') :
    CallM Try.prog O 9 [.pointer (some ⟨b, 0, none⟩)] S Q := by
  refine callM_wf fun wf => ?_
  refine callM_body (fnIs is9 body9 res9) (O_none (by decide)) (by simp) ?_
  refine m_seq (m_reg ?_)
  rw [reg9_0]
  refine m_seq (m_reg ?_)
  rw [reg9_1]
  have hsb := fresh_at S [.slice none 0 0] 0
  have f1 := old_fresh S [.slice none 0 0] 0
  have wf1 := wf_fresh' wf [.slice none 0 0] 0
  have hn1 : (S.fresh [.slice none 0 0] 0).n = S.n + 1 := rfl
  have hc1 := hc.old wf f1
  generalize S.fresh [.slice none 0 0] 0 = S1 at *
  refine m_seq (m_seq (m_reg ?_))
  rw [reg9_2]
  refine above14 fun S2 f2 hn2 hb1 hb2 => ?_
  refine m_wf fun wf2 => ?_
  have hc2 := hc1.old wf1 f2
  have hsb2 : S2.m S.n = some (.cells [.slice none 0 0] 0) := (f2.2 _ (by omega)).trans hsb
  have hbn := wf _ _ hc.c
  have hab : ab 0 ls = ls := by
    unfold ab
    rw [List.filter_eq_self]
    intro p hp
    have := hpos p hp
    simp; omega
  refine MWp.mono (range9 (S0 := S2) (S := S2) (sb := S.n) (b1 := S1.n) (b2 := S1.n + 1) (c := b) (B := B) (n := 0) (next := next) (w := w) (ls := ls) hls wf2 wf2 (Old.refl _) ⟨by omega, by omega, by omega, hc.w.avN wf (Nat.le_refl _)⟩ hb1 hb2 hc2 (by simp [FT.get_set, FT.setL, faS_ptr, nilS_ptr, nilS_func, nilS_yield, pickS_bool, ldS_ptr, list_cells, list_ro, partS_none, lenSl_of, lenStr_of, cvInt_of, aminmax_max, aminmax_min, abin_add, abin_sub, abin_mul, abin_eql, abin_neq, abin_lss, abin_leq, abin_gtr, abin_geq, aunary_not, aextract]) (by simp [FT.get_set, FT.setL, faS_ptr, nilS_ptr, nilS_func, nilS_yield, pickS_bool, ldS_ptr, list_cells, list_ro, partS_none, lenSl_of, lenStr_of, cvInt_of, aminmax_max, aminmax_min, abin_add, abin_sub, abin_mul, abin_eql, abin_neq, abin_lss, abin_leq, abin_gtr, abin_geq, aunary_not, aextract, ptrTo]) hsb2) ?_
  rintro _ T' S' ⟨rfl, rfl, hold, v, hv1, hv2⟩
  simp only
  refine m_seq (m_reg ?_)
  rw [reg9_5]
  simp (decide := true) only [FT.get_set, FT.setL, faS_ptr, nilS_ptr, nilS_func, nilS_yield, pickS_bool, ldS_ptr, list_cells, list_ro, partS_none, lenSl_of, lenStr_of, cvInt_of, aminmax_max, aminmax_min, abin_add, abin_sub, abin_mul, abin_eql, abin_neq, abin_lss, abin_leq, abin_gtr, abin_geq, aunary_not, aextract, Option.some.injEq, Prod.mk.injEq, Value.bool.injEq, exists_eq_left', exists_and_left, and_assoc, decide_eq_true_eq, decide_eq_false_iff_not, if_true, if_false, Nat.zero_add, Nat.add_zero, Option.bind_some, true_and, and_true, forall_const, true_implies, Bool.not_eq_true, Bool.false_eq_true, false_implies, ite_self, Nat.mul_one, list_of hv1, List.getElem?_cons_zero, ptrTo]
  refine m_ret ?_
  simp [resM, FT.get_set, FT.setL, faS_ptr, nilS_ptr, nilS_func, nilS_yield, pickS_bool, ldS_ptr, list_cells, list_ro, partS_none, lenSl_of, lenStr_of, cvInt_of, aminmax_max, aminmax_min, abin_add, abin_sub, abin_mul, abin_eql, abin_neq, abin_lss, abin_leq, abin_gtr, abin_geq, aunary_not, aextract, oneOrTuple]
  rw [hab] at hv2
  refine hq v S' ⟨by omega, fun y hy => ?_⟩ (hv2.weaken (by omega))
  rw [hold.2 y (by omega) (by omega), f2.2 y (by omega), f1.2 y hy]

/-- Ack -/
theorem ack11 {S : MS} {b B : Nat} {next n : Int} {w : Value} {ls : List Em} (hls : ls.length ≤ 100000) (hc : IsB S b B next w ls) (hB : B ≤ S.n) (hn : 0 ≤ n ∧ n < next) {Q : Value → MS → Prop}
    (hq : ∀ w' S', S.n ≤ S'.n → (∀ y, y < S.n → y ≠ b → S'.m y = S.m y) → (∀ y, y < S.n → Av w' y) → IsB S' b B next w' (ab n ls) → Q (.int .i64 0) S') :
    CallM Try.prog O 11 [.pointer (some ⟨b, 0, none⟩), .int .i64 n] S Q := by
  refine callM_wf fun wf => ?_
  have hbn := wf _ _ hc.c
  refine callM_body (fnIs is11 body11 res11) (O_none (by decide)) (by simp) ?_
  refine m_seq (m_reg ?_)
  rw [reg11_0]
  refine m_seq (m_seq (m_reg ?_))
  rw [reg11_1]
  have e1 : decide (n < 0) = false := decide_eq_false (by omega)
  have e2 : decide (n ≥ next) = false := decide_eq_false (by omega)
  simp (decide := true) only [FT.get_set, FT.setL, faS_ptr, nilS_ptr, nilS_func, nilS_yield, pickS_bool, ldS_ptr, list_cells, list_ro, partS_none, lenSl_of, lenStr_of, cvInt_of, aminmax_max, aminmax_min, abin_add, abin_sub, abin_mul, abin_eql, abin_neq, abin_lss, abin_leq, abin_gtr, abin_geq, aunary_not, aextract, Option.some.injEq, Prod.mk.injEq, Value.bool.injEq, exists_eq_left', exists_and_left, and_assoc, decide_eq_true_eq, decide_eq_false_iff_not, if_true, if_false, Nat.zero_add, Nat.add_zero, Option.bind_some, true_and, and_true, forall_const, true_implies, Bool.not_eq_true, Bool.false_eq_true, false_implies, ite_self, Nat.mul_one, e1, list_of hc.c, List.getElem?_cons_zero, e2]
  refine m_cond (t := false) (by simp [evalT, FT.get_set, FT.setL, faS_ptr, nilS_ptr, nilS_func, nilS_yield, pickS_bool, ldS_ptr, list_cells, list_ro, partS_none, lenSl_of, lenStr_of, cvInt_of, aminmax_max, aminmax_min, abin_add, abin_sub, abin_mul, abin_eql, abin_neq, abin_lss, abin_leq, abin_gtr, abin_geq, aunary_not, aextract]) (fun h => by cases h) (fun _ => m_skip ?_)
  simp only
  refine m_seq (m_reg ?_)
  rw [reg11_3]
  refine above14 fun S2 f2 hn2 hb1 hb2 => ?_
  refine callM_wf fun wf2 => ?_
  have hc2 := hc.old wf f2
  refine collect15 hls hb1 hb2 hc2 fun v S3 f3 hv => ?_
  have hc3 : S3.m b = some (.cells [.int .i64 next, w] 0) := (f3.2 b (by omega)).trans hc2.c
  obtain ⟨S4, u1, u2, u3, u4⟩ := st_one (off := 1) (v := v) hc3 (by simp) (SlF.one hv).1 (SlF.one hv).2
  simp (decide := true) only [FT.get_set, FT.setL, faS_ptr, nilS_ptr, nilS_func, nilS_yield, pickS_bool, ldS_ptr, list_cells, list_ro, partS_none, lenSl_of, lenStr_of, cvInt_of, aminmax_max, aminmax_min, abin_add, abin_sub, abin_mul, abin_eql, abin_neq, abin_lss, abin_leq, abin_gtr, abin_geq, aunary_not, aextract, Option.some.injEq, Prod.mk.injEq, Value.bool.injEq, exists_eq_left', exists_and_left, and_assoc, decide_eq_true_eq, decide_eq_false_iff_not, if_true, if_false, Nat.zero_add, Nat.add_zero, Option.bind_some, true_and, and_true, forall_const, true_implies, Bool.not_eq_true, Bool.false_eq_true, false_implies, ite_self, Nat.mul_one, ]
  refine ⟨S4, by simpa using u1, ?_⟩
  refine m_seq (m_reg ?_)
  rw [reg11_4]
  refine m_ret ?_
  simp [resM, FT.get_set, FT.setL, faS_ptr, nilS_ptr, nilS_func, nilS_yield, pickS_bool, ldS_ptr, list_cells, list_ro, partS_none, lenSl_of, lenStr_of, cvInt_of, aminmax_max, aminmax_min, abin_add, abin_sub, abin_mul, abin_eql, abin_neq, abin_lss, abin_leq, abin_gtr, abin_geq, aunary_not, aextract, oneOrTuple]
  refine hq v S4 (by have := f3.1; omega) (fun y hy hne => by rw [u4 y hne, f3.2 y (by omega), f2.2 y hy]) (fun y hy => hv.av (by omega)) ⟨u2, (hv.weaken (by omega)).keep1 fun y k hny hy => u4 y fun e => by subst e; exact hny (hv.av (by omega)), hc.lt⟩
end Go.Proofs.Ytikdcdccpbnaeaa

