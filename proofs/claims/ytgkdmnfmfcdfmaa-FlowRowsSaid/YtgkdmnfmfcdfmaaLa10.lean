/-
  The walk through the code of blocks and of what is reached, part L10: what its functions do to memory. Nothing is asked.
-/
import Derived.Test.YtgkdmnfmfcdfmaaLa9
set_option linter.all false
namespace Go.Proofs.Ytgkdmnfmfcdfmaa
open Go Go.Ag
set_option linter.unusedVariables false
set_option maxRecDepth 100000

/-- the caller's state while walk tells -/
def JG (bs : List Blk) (S0 : MS) (fb ob xb b1 lb : Nat) (rr : Int) (ov : Value) (T : FT) (ms : List Bool) (S' : MS) : Prop :=
  S'.m lb = some (.loop ⟨.ready, none, ⟨T, 30⟩, [25], (.region 6 (ro 11 6) false), (.block 1 (.region 7 (ro 11 7) false))⟩) ∧ S'.m b1 = some (.cells [.int .i64 bs.length] 0) ∧ S'.m (b1 + 1) = some (.cells [.func (.func 26) #[] #[.pointer (some ⟨fb, 0, none⟩)]] 0) ∧ S'.m fb = some (.cells [.int .i64 rr, ov] 0) ∧
  S'.m ob = some (.cells (ms.map .bool) 1) ∧ S'.m xb = some (.cells [.slice (some ⟨ob, 0, none⟩) bs.length bs.length] 0) ∧ lb + 1 ≤ S'.n ∧ ∀ x, x < S0.n → S'.m x = S0.m x

theorem range11 {S0 S : MS} {fb ob xb b1 : Nat} {rr : Int} {ov : Value} {bs : List Blk} {T : FT} (hok : okG bs) (wf : S.WF)
    (t24 : T.get 24 = .func (.func 39) #[] #[.pointer (some ⟨b1, 0, none⟩), .pointer (some ⟨b1 + 1, 0, none⟩)]) (t6 : T.get 6 = .pointer (some ⟨xb, 0, none⟩))
    (hb1 : S.m b1 = some (.cells [.int .i64 bs.length] 0)) (hb2 : S.m (b1 + 1) = some (.cells [.func (.func 26) #[] #[.pointer (some ⟨fb, 0, none⟩)]] 0)) (hfb : S.m fb = some (.cells [.int .i64 rr, ov] 0)) (ho : Blks S0 ov bs) (wf0 : S0.WF)
    (hob : S.m ob = some (.cells ((List.replicate bs.length false).map .bool) 1)) (hxb : S.m xb = some (.cells [.slice (some ⟨ob, 0, none⟩) bs.length bs.length] 0)) (hold : Old S0 S) (hord : S0.n ≤ ob) (hd : ob ≠ b1 ∧ ob ≠ b1 + 1 ∧ ob ≠ fb ∧ ob ≠ xb) :
    MWp Try.prog O 30 (.block 0 (.rangeFunc (.tmp 24) #[25] (.region 6 (ro 11 6) false) (.block 1 (.region 7 (ro 11 7) false)))) T S (fun x T' S' => x = .normal ∧ T' = T ∧ ∃ ms, VisG bs.length (nxG bs) ms [] ∧ S'.m ob = some (.cells (ms.map .bool) 1) ∧ S'.m xb = some (.cells [.slice (some ⟨ob, 0, none⟩) bs.length bs.length] 0) ∧ Old S0 S') := by
  have hn : bs.length ≤ 2000 := hok.2.1
  have h0 : bs.length ≠ 0 := by have := hok.1; omega
  refine m_block (m_rangeFunc rfl ?_)
  have e24 : evalT T (.tmp 24) = .func (.func 39) #[] #[.pointer (some ⟨b1, 0, none⟩), .pointer (some ⟨b1 + 1, 0, none⟩)] := t24
  rw [e24]
  show CallM Try.prog O 39 [.func (.yield S.n) #[] #[], .pointer (some ⟨b1, 0, none⟩), .pointer (some ⟨b1 + 1, 0, none⟩)] _ _
  have hlt := fun {x k} (h : S.m x = some k) => wf x k h
  have l1 := hlt hb1
  have l2 := hlt hb2
  have l3 := hlt hfb
  have l4 := hlt hob
  have l5 := hlt hxb
  have hpu : ∀ x k, x ≠ S.n → (S.push k).m x = S.m x := fun x k hx => by rw [push_m, if_neg hx]
  refine CallM.mono (walk39G (B := S.n + 1) (fb := fb) (fid := 26) (nx := nxG bs) (nxG_good hok) (by omega) (nxG_len bs) h0 (JG bs S0 fb ob xb b1 S.n rr ov T) ?_ ?_ ?_ ?_ ?_) ?_
  · rintro ms S' ⟨j0, j1, j2, j3, j5, j6, j7, j8⟩
    exact ⟨j1, j2, j7⟩
  · rintro ms S' i Q ⟨j0, j1, j2, j3, j5, j6, j7, j8⟩ wf' hi hq
    obtain ⟨b, hb⟩ : ∃ b, bs[i]? = some b := ⟨_, List.getElem?_eq_getElem hi⟩
    refine after26 (rr := rr) j3 (ho.keep wf0 j8) hb fun v S2 h1 h2 => ?_
    exact hq v S2 (by rw [nxG_of hb]; exact h1) h2.1 h2.2
  · rintro ms S1 S2 ⟨j0, j1, j2, j3, j5, j6, j7, j8⟩ wf1 hk hn2
    refine ⟨by rw [hk _ (by omega)]; exact j0, by rw [hk _ (by omega)]; exact j1, by rw [hk _ (by omega)]; exact j2, by rw [hk _ (by omega)]; exact j3, by rw [hk _ (by omega)]; exact j5, by rw [hk _ (by omega)]; exact j6, by omega, fun x hx => by rw [hk x (by have := hold.1; omega)]; exact j8 x hx⟩
  · rintro ms S1 i ⟨j0, j1, j2, j3, j5, j6, j7, j8⟩ wf1 hlen hi
    have hil : i < bs.length := by rw [← hlen]; exact (List.getElem?_eq_some_iff.1 hi).1
    refine roundM_body (T := T.set (.int .i64 i) 25) j0 rfl ?_
    refine m_reg ?_
    rw [reg11_6]
    refine ⟨rfl, _, j0, rfl, ?_⟩
    have g5 : ∀ L, (S1.set S.n (.loop L)).m ob = some (.cells (ms.map .bool) 1) := fun L => by rw [set_m, if_neg (by omega)]; exact j5
    have g6 : ∀ L, (S1.set S.n (.loop L)).m xb = some (.cells [.slice (some ⟨ob, 0, none⟩) bs.length bs.length] 0) := fun L => by rw [set_m, if_neg (by omega)]; exact j6
    refine m_block (m_reg ?_)
    rw [reg11_7]
    simp (decide := true) only [FT.get_set, FT.setL, faS_ptr, nilS_ptr, nilS_func, nilS_yield, pickS_bool, ldS_ptr, list_cells, list_ro, partS_none, lenSl_of, lenStr_of, cvInt_of, aminmax_max, aminmax_min, abin_add, abin_sub, abin_mul, abin_eql, abin_neq, abin_lss, abin_leq, abin_gtr, abin_geq, aunary_not, aextract, Option.some.injEq, Prod.mk.injEq, Value.bool.injEq, exists_eq_left', exists_and_left, and_assoc, decide_eq_true_eq, decide_eq_false_iff_not, if_true, if_false, Nat.zero_add, Nat.add_zero, Option.bind_some, true_and, and_true, forall_const, true_implies, Bool.not_eq_true, Bool.false_eq_true, false_implies, ite_self, Nat.mul_one, t6, list_of (g6 _), List.getElem?_cons_zero, iaSS_of (k := .i64) (i := (i : Int)) (by omega) (by omega : (i : Int) < (bs.length : Int)), Int.toNat_natCast]
    obtain ⟨S5, u1, u2, u3, u4⟩ := st_one (off := i) (v := .bool true) (g5 ⟨.busy, none, ⟨T, 30⟩, [25], (.region 6 (ro 11 6) false), (.block 1 (.region 7 (ro 11 7) false))⟩) (by rw [List.length_map, hlen]; exact hil) rfl rfl
    refine ⟨S5, u1, ?_⟩
    refine ⟨_, (u4 _ (by omega)).trans (by rw [set_m, if_pos rfl]), ⟨?_, ?_, ?_, ?_, ?_, ?_, ?_, fun x hx => ?_⟩, ?_, fun x hx1 hx2 => ?_⟩
    · rw [set_m, if_pos rfl]; rfl
    · rw [set_m, if_neg (by omega), u4 _ (by omega), set_m, if_neg (by omega)]; exact j1
    · rw [set_m, if_neg (by omega), u4 _ (by omega), set_m, if_neg (by omega)]; exact j2
    · rw [set_m, if_neg (by omega), u4 _ (by omega), set_m, if_neg (by omega)]; exact j3
    · rw [set_m, if_neg (by omega), u2, List.map_set]
    · rw [set_m, if_neg (by omega), u4 _ (by omega), set_m, if_neg (by omega)]; exact j6
    · simp only [set_n]; rw [u3, set_n]; exact j7
    · have := hold.1
      rw [set_m, if_neg (by omega), u4 _ (by omega), set_m, if_neg (by omega)]; exact j8 x hx
    · simp only [set_n]; rw [u3, set_n]; omega
    · rw [set_m, if_neg (by omega), u4 _ (by omega), set_m, if_neg (by omega)]
  · have := hold.1
    refine ⟨by rw [push_m, if_pos rfl], by rw [hpu _ _ (by omega)]; exact hb1, by rw [hpu _ _ (by omega)]; exact hb2, by rw [hpu _ _ (by omega)]; exact hfb, by rw [hpu _ _ (by omega)]; exact hob, by rw [hpu _ _ (by omega)]; exact hxb, by rw [push_n]; omega, fun x hx => by rw [hpu _ _ (by omega)]; exact hold.2 x hx⟩
  · rintro _ S' ⟨ms, hv, j0, j1, j2, j3, j5, j6, j7, j8⟩
    refine ⟨_, j0, by simp, rfl, rfl, ms, hv, ?_, ?_, ?_⟩
    · rw [set_m, if_neg (by omega)]; exact j5
    · rw [set_m, if_neg (by omega)]; exact j6
    · have := hold.1
      exact ⟨by simp only [set_n]; omega, fun x hx => by rw [set_m, if_neg (by omega)]; exact j8 x hx⟩

end Go.Proofs.Ytgkdmnfmfcdfmaa

