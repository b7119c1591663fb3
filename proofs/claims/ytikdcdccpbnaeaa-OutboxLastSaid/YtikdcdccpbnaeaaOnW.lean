/-
  The walk through the outbox's code: what its functions do to memory, part OnW. Nothing is asked.
-/
import Derived.Test.YtikdcdccpbnaeaaProg
import Derived.Test.YtikdcdccpbnaeaaAg4
import Derived.KernelRfl
set_option linter.all false
namespace Go.Proofs.Ytikdcdccpbnaeaa
open Go Go.Ag
set_option linter.unusedVariables false
set_option maxRecDepth 100000
noncomputable def ro (f id : Nat) : Array Oper := roP Try.prog f id
/-! ### 3: windlass/windlasslaw21.OutboxArrives -/
/-! ### 4: windlass/windlasslaw21.OutboxLast -/
theorem body4 : (Try.prog.funcs[4]?).bind (·.body) = some (.seq (.region 0 (ro 4 0) false) (.seq (.seq (.region 1 (ro 4 1) false) (.cond (.tmp 11) (.seq (.region 2 (ro 4 2) false) .ret) .skip)) (.seq (.seq (.region 3 (ro 4 3) false) (.cond (.tmp 14) (.seq (.region 4 (ro 4 4) false) .ret) .skip)) (.seq (.region 5 (ro 4 5) false) (.seq (.region 6 (ro 4 6) false) (.seq (.region 7 (ro 4 7) false) (.seq (.seq (.region 8 (ro 4 8) false) (.block 0 (.loop (.seq (.seq (.region 9 (ro 4 9) false) (.cond (.tmp 19) .skip (.exit 0))) (.seq (.block 1 (.seq (.region 11 (ro 4 11) false) (.seq (.region 12 (ro 4 12) false) (.seq (.seq (.region 13 (ro 4 13) false) (.cond (.tmp 41) (.seq (.region 14 (ro 4 14) false) .ret) .skip)) (.seq (.seq (.region 15 (ro 4 15) false) (.cond (.tmp 42) (.region 16 (ro 4 16) false) .skip)) (.seq (.region 17 (ro 4 17) false) (.seq (.region 18 (ro 4 18) false) (.seq (.block 2 (.loop (.seq (.seq (.region 19 (ro 4 19) false) (.cond (.tmp 54) .skip (.exit 2))) (.block 3 (.region 20 (ro 4 20) false))))) (.seq (.region 21 (ro 4 21) false) (.cond (.tmp 67) (.seq (.region 22 (ro 4 22) false) .ret) .skip)))))))))) (.region 10 (ro 4 10) false)))))) (.seq (.region 23 (ro 4 23) false) .ret)))))))) := by kernel_rfl
theorem res4 : (Try.prog.funcs[4]?).map (·.results.toList) = some [.tmp 2] := by kernel_rfl
theorem is4 : fnIsB Try.prog 4 68 = true := by kernel_rfl
theorem reg4_0 {O : Hook} {T : FT} {S : MS} {Q : FT → MS → Prop} : mOps Try.prog O 68 (ro 4 0).toList (ro 4 0).toList [] T S Q =
  (Q (T.set (.bool false) 2) S) := by kernel_rfl
theorem reg4_1 {O : Hook} {T : FT} {S : MS} {Q : FT → MS → Prop} : mOps Try.prog O 68 (ro 4 1).toList (ro 4 1).toList [] T S Q =
  (CallM Try.prog O 5 [] S fun p0 S0 => ∃ p1, aunary .not p0 = some p1 ∧ Q ((T.set p0 10).set p1 11) S0) := by kernel_rfl
theorem reg4_3 {O : Hook} {T : FT} {S : MS} {Q : FT → MS → Prop} : mOps Try.prog O 68 (ro 4 3).toList (ro 4 3).toList [] T S Q =
  (∃ p1, lenSl (T.get 0) = some p1 ∧ ∃ p2, abin Try.prog .gtr 3 (.tmp 13) (.const (.int .i64 80)) p1 (.int .i64 80) = some p2 ∧ Q (((T.set (T.get 0) 12).set p1 13).set p2 14) S) := by kernel_rfl
theorem reg4_4 {O : Hook} {T : FT} {S : MS} {Q : FT → MS → Prop} : mOps Try.prog O 68 (ro 4 4).toList (ro 4 4).toList [] T S Q =
  (Q (T.set (.bool true) 2) S) := by kernel_rfl
theorem reg4_5 {O : Hook} {T : FT} {S : MS} {Q : FT → MS → Prop} : mOps Try.prog O 68 (ro 4 5).toList (ro 4 5).toList [] T S Q =
  (CallM Try.prog O 7 [] S fun p0 S0 => Q ((T.set p0 15).set p0 3) S0) := by kernel_rfl
theorem reg4_6 {O : Hook} {T : FT} {S : MS} {Q : FT → MS → Prop} : mOps Try.prog O 68 (ro 4 6).toList (ro 4 6).toList [] T S Q =
  (Q (T.set (ptrTo S.n) 4) (S.fresh (List.replicate 41 (.bool false)) 0)) := by kernel_rfl
theorem reg4_7 {O : Hook} {T : FT} {S : MS} {Q : FT → MS → Prop} : mOps Try.prog O 68 (ro 4 7).toList (ro 4 7).toList [] T S Q =
  (Q (T.set (.int .i64 0) 5) S) := by kernel_rfl
theorem reg4_8 {O : Hook} {T : FT} {S : MS} {Q : FT → MS → Prop} : mOps Try.prog O 68 (ro 4 8).toList (ro 4 8).toList [] T S Q =
  (Q (T.set (.int .i64 0) 6) S) := by kernel_rfl
theorem reg4_9 {O : Hook} {T : FT} {S : MS} {Q : FT → MS → Prop} : mOps Try.prog O 68 (ro 4 9).toList (ro 4 9).toList [] T S Q =
  (∃ p2, lenSl (T.get 0) = some p2 ∧ ∃ p3, abin Try.prog .lss 3 (.tmp 16) (.tmp 18) (T.get 6) p2 = some p3 ∧ Q ((((T.set (T.get 6) 16).set (T.get 0) 17).set p2 18).set p3 19) S) := by kernel_rfl
theorem reg4_11 {O : Hook} {T : FT} {S : MS} {Q : FT → MS → Prop} : mOps Try.prog O 68 (ro 4 11).toList (ro 4 11).toList [] T S Q =
  (∃ p2, iaSS 1 (T.get 0) (T.get 6) = some p2 ∧ ∃ p3, ldS none S p2 = some p3 ∧ ∃ p4, abin Try.prog .rem 5 (.tmp 25) (.const (.int .u8 41)) p3 (.int .u8 41) = some p4 ∧ ∃ p5, cvInt .i64 p4 = some p5 ∧ Q (((((((T.set (T.get 0) 22).set (T.get 6) 23).set p2 24).set p3 25).set p4 26).set p5 27).set p5 7) S) := by kernel_rfl
theorem reg4_12 {O : Hook} {T : FT} {S : MS} {Q : FT → MS → Prop} : mOps Try.prog O 68 (ro 4 12).toList (ro 4 12).toList [] T S Q =
  (∃ p2, bdS (fun i => [(0, 1), (1, 1)][i]?) [.int .i64 0, .string ⟨⟨[]⟩⟩] [(0, (T.get 7)), (1, (.string ⟨⟨[120]⟩⟩))] = some p2 ∧ CallM Try.prog O 10 [(T.get 3), p2] S fun p3 S3 => Q (((((T.set (T.get 3) 28).set (T.get 7) 29).set p2 30).set p3 31).set p3 8) S3) := by kernel_rfl
theorem reg4_13 {O : Hook} {T : FT} {S : MS} {Q : FT → MS → Prop} : mOps Try.prog O 68 (ro 4 13).toList (ro 4 13).toList [] T S Q =
  (∃ p2, abin Try.prog .gtr 3 (.tmp 33) (.const (.int .i64 0)) (T.get 7) (.int .i64 0) = some p2 ∧ ∃ b3, p2 = .bool b3 ∧
      (b3 = true → ∃ p5, iaAS 41 1 (T.get 4) (T.get 7) = some p5 ∧ ∃ p6, ldS none S p5 = some p6 ∧ ∃ p7, aunary .not p6 = some p7 ∧ ∃ p8, pickS p2 p7 (.bool false) = some p8 ∧ ∃ p9, abin Try.prog .neq 4 (.tmp 32) (.tmp 40) (T.get 8) p8 = some p9 ∧ Q ((((((((((T.set (T.get 8) 32).set (T.get 7) 33).set p2 34).set p2 35).set (T.get 7) 36).set p5 37).set p6 38).set p7 39).set p8 40).set p9 41) S) ∧
      (b3 = false → ∃ p8, pickS p2 undef (.bool false) = some p8 ∧ ∃ p9, abin Try.prog .neq 4 (.tmp 32) (.tmp 40) (T.get 8) p8 = some p9 ∧ Q ((((((((((T.set (T.get 8) 32).set (T.get 7) 33).set p2 34).set p2 35).set undef 36).set undef 37).set undef 38).set undef 39).set p8 40).set p9 41) S)) := by kernel_rfl
theorem reg4_15 {O : Hook} {T : FT} {S : MS} {Q : FT → MS → Prop} : mOps Try.prog O 68 (ro 4 15).toList (ro 4 15).toList [] T S Q =
  (Q (T.set (T.get 8) 42) S) := by kernel_rfl
theorem reg4_16 {O : Hook} {T : FT} {S : MS} {Q : FT → MS → Prop} : mOps Try.prog O 68 (ro 4 16).toList (ro 4 16).toList [] T S Q =
  (∃ p1, abin Try.prog .add 3 (.tmp 43) (.const (.int .i64 1)) (T.get 5) (.int .i64 1) = some p1 ∧ Q (((T.set (T.get 5) 43).set p1 44).set p1 5) S) := by kernel_rfl
theorem reg4_17 {O : Hook} {T : FT} {S : MS} {Q : FT → MS → Prop} : mOps Try.prog O 68 (ro 4 17).toList (ro 4 17).toList [] T S Q =
  (∃ p1, iaAS 41 1 (T.get 4) (T.get 7) = some p1 ∧ ∃ S2, stS 1 S p1 (.bool true) = some S2 ∧ Q ((T.set (T.get 7) 45).set p1 46) S2) := by kernel_rfl
theorem reg4_18 {O : Hook} {T : FT} {S : MS} {Q : FT → MS → Prop} : mOps Try.prog O 68 (ro 4 18).toList (ro 4 18).toList [] T S Q =
  (Q (T.set (.int .i64 0) 9) S) := by kernel_rfl
theorem reg4_19 {O : Hook} {T : FT} {S : MS} {Q : FT → MS → Prop} : mOps Try.prog O 68 (ro 4 19).toList (ro 4 19).toList [] T S Q =
  (∃ p1, abin Try.prog .lss 3 (.tmp 47) (.const (.int .i64 40)) (T.get 9) (.int .i64 40) = some p1 ∧ ∃ b2, p1 = .bool b2 ∧
     (b2 = true → ∃ p4, abin Try.prog .add 3 (.tmp 50) (.const (.int .i64 1)) (T.get 9) (.int .i64 1) = some p4 ∧ ∃ p5, iaAS 41 1 (T.get 4) p4 = some p5 ∧ ∃ p6, ldS none S p5 = some p6 ∧ ∃ p7, pickS p1 p6 (.bool false) = some p7 ∧ Q ((((((((T.set (T.get 9) 47).set p1 48).set p1 49).set (T.get 9) 50).set p4 51).set p5 52).set p6 53).set p7 54) S) ∧
     (b2 = false → ∃ p7, pickS p1 undef (.bool false) = some p7 ∧ Q ((((((((T.set (T.get 9) 47).set p1 48).set p1 49).set undef 50).set undef 51).set undef 52).set undef 53).set p7 54) S)) := by kernel_rfl
theorem reg4_20 {O : Hook} {T : FT} {S : MS} {Q : FT → MS → Prop} : mOps Try.prog O 68 (ro 4 20).toList (ro 4 20).toList [] T S Q =
  (∃ p1, abin Try.prog .add 3 (.tmp 55) (.const (.int .i64 1)) (T.get 9) (.int .i64 1) = some p1 ∧ Q (((T.set (T.get 9) 55).set p1 56).set p1 9) S) := by kernel_rfl
theorem reg4_21 {O : Hook} {T : FT} {S : MS} {Q : FT → MS → Prop} : mOps Try.prog O 68 (ro 4 21).toList (ro 4 21).toList [] T S Q =
  (CallM Try.prog O 12 [(T.get 3)] S fun p1 S1 => ∃ p3, abin Try.prog .neq 3 (.tmp 58) (.tmp 59) p1 (T.get 9) = some p3 ∧ ∃ b4, p3 = .bool b4 ∧
       (b4 = true → ∃ p10, pickS p3 (.bool true) undef = some p10 ∧ Q (((((((((((T.set (T.get 3) 57).set p1 58).set (T.get 9) 59).set p3 60).set p3 61).set undef 62).set undef 63).set undef 64).set undef 65).set undef 66).set p10 67) S1) ∧
       (b4 = false → CallM Try.prog O 13 [(T.get 3)] S1 fun p6 S6 => ∃ p7, lenSl p6 = some p7 ∧ ∃ p9, abin Try.prog .neq 3 (.tmp 64) (.tmp 65) p7 (T.get 5) = some p9 ∧ ∃ p10, pickS p3 (.bool true) p9 = some p10 ∧ Q (((((((((((T.set (T.get 3) 57).set p1 58).set (T.get 9) 59).set p3 60).set p3 61).set (T.get 3) 62).set p6 63).set p7 64).set (T.get 5) 65).set p9 66).set p10 67) S6)) := by kernel_rfl
theorem reg4_10 {O : Hook} {T : FT} {S : MS} {Q : FT → MS → Prop} : mOps Try.prog O 68 (ro 4 10).toList (ro 4 10).toList [] T S Q =
  (∃ p1, abin Try.prog .add 3 (.tmp 20) (.const (.int .i64 1)) (T.get 6) (.int .i64 1) = some p1 ∧ Q (((T.set (T.get 6) 20).set p1 21).set p1 6) S) := by kernel_rfl
theorem reg4_23 {O : Hook} {T : FT} {S : MS} {Q : FT → MS → Prop} : mOps Try.prog O 68 (ro 4 23).toList (ro 4 23).toList [] T S Q =
  (Q (T.set (.bool true) 2) S) := by kernel_rfl
/-! ### 6: windlass/outbox.New -/
/-! ### 7: windlass/outbox.NewReceiver -/
theorem body7 : (Try.prog.funcs[7]?).bind (·.body) = some (.seq (.region 0 (ro 7 0) false) (.seq (.region 1 (ro 7 1) false) .ret)) := by kernel_rfl
theorem res7 : (Try.prog.funcs[7]?).map (·.results.toList) = some [.tmp 0] := by kernel_rfl
theorem is7 : fnIsB Try.prog 7 4 = true := by kernel_rfl
theorem reg7_0 {O : Hook} {T : FT} {S : MS} {Q : FT → MS → Prop} : mOps Try.prog O 4 (ro 7 0).toList (ro 7 0).toList [] T S Q =
  (Q (T.set (.pointer none) 0) S) := by kernel_rfl
theorem reg7_1 {O : Hook} {T : FT} {S : MS} {Q : FT → MS → Prop} : mOps Try.prog O 4 (ro 7 1).toList (ro 7 1).toList [] T S Q =
  (∃ p0 S0, mmakeMap S none = some (p0, S0) ∧ ∃ p1, bdS (fun i => [(0, 1)][i]?) [.map none] [(0, p0)] = some p1 ∧ Q ((((T.set p0 1).set p1 2).set (ptrTo S0.n) 3).set (ptrTo S0.n) 0) (S0.fresh (Value.cells p1).toList 0)) := by kernel_rfl
/-! ### 8: (*windlass/outbox.Box).Add -/
/-! ### 9: (*windlass/outbox.Box).Wait -/
/-! ### 10: (*windlass/outbox.Receiver).Take -/
theorem body10 : (Try.prog.funcs[10]?).bind (·.body) = some (.seq (.region 0 (ro 10 0) false) (.seq (.seq (.region 1 (ro 10 1) true) (.seq (.region 2 (ro 10 2) false) (.cond (.tmp 22) (.seq (.region 3 (ro 10 3) false) .ret) .skip))) (.seq (.region 4 (ro 10 4) true) (.seq (.region 5 (ro 10 5) false) .ret)))) := by kernel_rfl
theorem res10 : (Try.prog.funcs[10]?).map (·.results.toList) = some [.tmp 4] := by kernel_rfl
theorem is10 : fnIsB Try.prog 10 31 = true := by kernel_rfl
theorem reg10_0 {O : Hook} {T : FT} {S : MS} {Q : FT → MS → Prop} : mOps Try.prog O 31 (ro 10 0).toList (ro 10 0).toList [] T S Q =
  (Q ((T.set (ptrTo S.n) 3).set (.bool false) 4) (S.fresh (Value.cells (T.get 1)).toList 0)) := by kernel_rfl
theorem reg10_1 {O : Hook} {T : FT} {S : MS} {Q : FT → MS → Prop} : mDraw Try.prog O 31 (ro 10 1).toList T S Q =
  (∃ p1, nilS (T.get 0) = some p1 ∧ ∃ p2, faS 0 p1 = some p2 ∧ ∃ p3, ldS none S p2 = some p3 ∧ ∃ p4, faS 0 (T.get 3) = some p4 ∧ ∃ p5, ldS none S p4 = some p5 ∧ ∃ p6, lkS Try.prog 3 (.string ⟨⟨[]⟩⟩) S p3 p5 true = some p6 ∧ ∃ p8, aextract p6 0 = some p8 ∧ ∃ p9, aextract p6 1 = some p9 ∧ Q ((((((((((((T.set (T.get 0) 8).set p1 9).set p2 10).set p3 11).set p4 12).set p5 13).set p6 14).set p6 7).set p8 15).set p9 16).set p8 5).set p9 6) S) := by kernel_rfl
theorem reg10_2 {O : Hook} {T : FT} {S : MS} {Q : FT → MS → Prop} : mOps Try.prog O 31 (ro 10 2).toList (ro 10 2).toList [] T S Q =
  (∃ b1, (T.get 6) = .bool b1 ∧
    (b1 = true → ∃ p5, pickS (T.get 6) (.bool true) undef = some p5 ∧ Q ((((((T.set (T.get 6) 17).set (T.get 6) 18).set undef 19).set undef 20).set undef 21).set p5 22) S) ∧
    (b1 = false → ∃ p2, faS 0 (T.get 3) = some p2 ∧ ∃ p3, ldS none S p2 = some p3 ∧ ∃ p4, abin Try.prog .lss 3 (.tmp 20) (.const (.int .i64 1)) p3 (.int .i64 1) = some p4 ∧ ∃ p5, pickS (T.get 6) (.bool true) p4 = some p5 ∧ Q ((((((T.set (T.get 6) 17).set (T.get 6) 18).set p2 19).set p3 20).set p4 21).set p5 22) S)) := by kernel_rfl
theorem reg10_3 {O : Hook} {T : FT} {S : MS} {Q : FT → MS → Prop} : mOps Try.prog O 31 (ro 10 3).toList (ro 10 3).toList [] T S Q =
  (Q (T.set (.bool false) 4) S) := by kernel_rfl
theorem reg10_4 {O : Hook} {T : FT} {S : MS} {Q : FT → MS → Prop} : mDraw Try.prog O 31 (ro 10 4).toList T S Q =
  (∃ p1, nilS (T.get 0) = some p1 ∧ ∃ p2, faS 0 p1 = some p2 ∧ ∃ p3, ldS none S p2 = some p3 ∧ ∃ p4, faS 0 (T.get 3) = some p4 ∧ ∃ p5, ldS none S p4 = some p5 ∧ ∃ p6, faS 1 (T.get 3) = some p6 ∧ ∃ p7, ldS none S p6 = some p7 ∧ ∃ p8 S8, ((muS Try.prog 3 S p3 p5 p7).map fun S1 => (undef, S1)) = some (p8, S8) ∧ Q ((((((((T.set (T.get 0) 23).set p1 24).set p2 25).set p3 26).set p4 27).set p5 28).set p6 29).set p7 30) S8) := by kernel_rfl
theorem reg10_5 {O : Hook} {T : FT} {S : MS} {Q : FT → MS → Prop} : mOps Try.prog O 31 (ro 10 5).toList (ro 10 5).toList [] T S Q =
  (Q (T.set (.bool true) 4) S) := by kernel_rfl
/-! ### 11: (*windlass/outbox.Box).Ack -/
/-! ### 12: (*windlass/outbox.Receiver).Last -/
noncomputable def blk12_1 : Code := .block 1 (.seq (.seq (.region 2 (ro 12 2) false) (.seq (.region 3 (ro 12 3) false) (.cond (.tmp 17) (.seq (.region 4 (ro 12 4) false) .ret) .skip))) (.region 5 (ro 12 5) false))
noncomputable def blk12_0 : Code := .block 0 (.loop blk12_1)
theorem body12 : (Try.prog.funcs[12]?).bind (·.body) = some (.seq (.region 0 (ro 12 0) false) (.seq (.region 1 (ro 12 1) false) blk12_0)) := by kernel_rfl
theorem res12 : (Try.prog.funcs[12]?).map (·.results.toList) = some [.tmp 2] := by kernel_rfl
theorem is12 : fnIsB Try.prog 12 21 = true := by kernel_rfl
theorem reg12_0 {O : Hook} {T : FT} {S : MS} {Q : FT → MS → Prop} : mOps Try.prog O 21 (ro 12 0).toList (ro 12 0).toList [] T S Q =
  (Q (T.set (.int .i64 0) 2) S) := by kernel_rfl
theorem reg12_1 {O : Hook} {T : FT} {S : MS} {Q : FT → MS → Prop} : mOps Try.prog O 21 (ro 12 1).toList (ro 12 1).toList [] T S Q =
  (Q (T.set (.int .i64 0) 3) S) := by kernel_rfl
theorem reg12_2 {O : Hook} {T : FT} {S : MS} {Q : FT → MS → Prop} : mOps Try.prog O 21 (ro 12 2).toList (ro 12 2).toList [] T S Q =
  (∃ p1, nilS (T.get 0) = some p1 ∧ ∃ p2, faS 0 p1 = some p2 ∧ ∃ p3, ldS none S p2 = some p3 ∧ ∃ p5, abin Try.prog .add 3 (.tmp 11) (.const (.int .i64 1)) (T.get 3) (.int .i64 1) = some p5 ∧ ∃ p6, lkS Try.prog 3 (.string ⟨⟨[]⟩⟩) S p3 p5 true = some p6 ∧ ∃ p8, aextract p6 0 = some p8 ∧ ∃ p9, aextract p6 1 = some p9 ∧ Q ((((((((((((T.set (T.get 0) 7).set p1 8).set p2 9).set p3 10).set (T.get 3) 11).set p5 12).set p6 13).set p6 6).set p8 14).set p9 15).set p8 4).set p9 5) S) := by kernel_rfl
theorem reg12_3 {O : Hook} {T : FT} {S : MS} {Q : FT → MS → Prop} : mOps Try.prog O 21 (ro 12 3).toList (ro 12 3).toList [] T S Q =
  (∃ p1, aunary .not (T.get 5) = some p1 ∧ Q ((T.set (T.get 5) 16).set p1 17) S) := by kernel_rfl
theorem reg12_4 {O : Hook} {T : FT} {S : MS} {Q : FT → MS → Prop} : mOps Try.prog O 21 (ro 12 4).toList (ro 12 4).toList [] T S Q =
  (Q ((T.set (T.get 3) 18).set (T.get 3) 2) S) := by kernel_rfl
theorem reg12_5 {O : Hook} {T : FT} {S : MS} {Q : FT → MS → Prop} : mOps Try.prog O 21 (ro 12 5).toList (ro 12 5).toList [] T S Q =
  (∃ p1, abin Try.prog .add 3 (.tmp 19) (.const (.int .i64 1)) (T.get 3) (.int .i64 1) = some p1 ∧ Q (((T.set (T.get 3) 19).set p1 20).set p1 3) S) := by kernel_rfl
/-! ### 13: (*windlass/outbox.Receiver).Got -/
noncomputable def blk13_1 : Code := .block 1 (.seq (.region 4 (ro 13 4) false) (.region 5 (ro 13 5) false))
noncomputable def blk13_0 : Code := .block 0 (.loop (.seq (.region 3 (ro 13 3) false) (.seq (.cond (.tmp 14) .skip (.exit 0)) (.seq blk13_1 (.region 6 (ro 13 6) false)))))
theorem body13 : (Try.prog.funcs[13]?).bind (·.body) = some (.seq (.region 0 (ro 13 0) false) (.seq (.region 1 (ro 13 1) false) (.seq (.seq (.region 2 (ro 13 2) false) blk13_0) (.seq (.region 7 (ro 13 7) false) .ret)))) := by kernel_rfl
theorem res13 : (Try.prog.funcs[13]?).map (·.results.toList) = some [.tmp 2] := by kernel_rfl
theorem is13 : fnIsB Try.prog 13 30 = true := by kernel_rfl
theorem reg13_0 {O : Hook} {T : FT} {S : MS} {Q : FT → MS → Prop} : mOps Try.prog O 30 (ro 13 0).toList (ro 13 0).toList [] T S Q =
  (Q (T.set (.slice none 0 0) 2) S) := by kernel_rfl
theorem reg13_1 {O : Hook} {T : FT} {S : MS} {Q : FT → MS → Prop} : mOps Try.prog O 30 (ro 13 1).toList (ro 13 1).toList [] T S Q =
  (Q (T.set (.slice none 0 0) 3) S) := by kernel_rfl
theorem reg13_2 {O : Hook} {T : FT} {S : MS} {Q : FT → MS → Prop} : mOps Try.prog O 30 (ro 13 2).toList (ro 13 2).toList [] T S Q =
  (∃ p1, nilS (T.get 0) = some p1 ∧ ∃ p2, faS 0 p1 = some p2 ∧ ∃ p3, ldS none S p2 = some p3 ∧ CallM Try.prog O 17 [p3] S fun p4 S4 => CallM Try.prog O 16 [p4] S4 fun p5 S5 => ∃ p6, lenSl p5 = some p6 ∧ Q ((((((((T.set (T.get 0) 6).set p1 7).set p2 8).set p3 9).set p4 10).set p5 11).set p6 12).set (.int .i64 0) 13) S5) := by kernel_rfl
theorem reg13_3 {O : Hook} {T : FT} {S : MS} {Q : FT → MS → Prop} : mOps Try.prog O 30 (ro 13 3).toList (ro 13 3).toList [] T S Q =
  (∃ p0, abin Try.prog .lss 3 (.tmp 13) (.tmp 12) (T.get 13) (T.get 12) = some p0 ∧ Q (T.set p0 14) S) := by kernel_rfl
theorem reg13_4 {O : Hook} {T : FT} {S : MS} {Q : FT → MS → Prop} : mOps Try.prog O 30 (ro 13 4).toList (ro 13 4).toList [] T S Q =
  (∃ p0, iaSS 1 (T.get 11) (T.get 13) = some p0 ∧ ∃ p1, ldS none S p0 = some p1 ∧ Q (((T.set p0 15).set p1 16).set p1 5) S) := by kernel_rfl
theorem reg13_5 {O : Hook} {T : FT} {S : MS} {Q : FT → MS → Prop} : mOps Try.prog O 30 (ro 13 5).toList (ro 13 5).toList [] T S Q =
  (∃ p3, nilS (T.get 0) = some p3 ∧ ∃ p4, faS 0 p3 = some p4 ∧ ∃ p5, ldS none S p4 = some p5 ∧ ∃ p7, lkS Try.prog 3 (.string ⟨⟨[]⟩⟩) S p5 (T.get 5) false = some p7 ∧ ∃ p8, bdS (fun i => [(0, 1), (1, 1)][i]?) [.int .i64 0, .string ⟨⟨[]⟩⟩] [(0, (T.get 5)), (1, p7)] = some p8 ∧ ∃ p9 S9, bsS S 1 2 [.int .i64 0, .string ⟨⟨[]⟩⟩] [(0, p8)] = some (p9, S9) ∧ ∃ p10 S10, apS false 2 24 [.int .i64 0, .string ⟨⟨[]⟩⟩] S9 [(T.get 3), p9] = some (p10, S10) ∧ Q ((((((((((((T.set (T.get 3) 17).set (T.get 5) 18).set (T.get 0) 19).set p3 20).set p4 21).set p5 22).set (T.get 5) 23).set p7 24).set p8 25).set p9 26).set p10 27).set p10 3) S10) := by kernel_rfl
theorem reg13_6 {O : Hook} {T : FT} {S : MS} {Q : FT → MS → Prop} : mOps Try.prog O 30 (ro 13 6).toList (ro 13 6).toList [] T S Q =
  (∃ p0, abin Try.prog .add 3 (.tmp 13) (.const (.int .i64 1)) (T.get 13) (.int .i64 1) = some p0 ∧ Q ((T.set p0 28).set p0 13) S) := by kernel_rfl
theorem reg13_7 {O : Hook} {T : FT} {S : MS} {Q : FT → MS → Prop} : mOps Try.prog O 30 (ro 13 7).toList (ro 13 7).toList [] T S Q =
  (Q ((T.set (T.get 3) 29).set (T.get 3) 2) S) := by kernel_rfl
/-! ### 14: (*windlass/outbox.Box).above -/
/-! ### 15: slices.Collect[windlass/api.Emission] -/
/-! ### 17: maps.Keys[map[int]string,int,string] -/
theorem body17 : (Try.prog.funcs[17]?).bind (·.body) = some (.seq (.region 0 (ro 17 0) false) (.seq (.region 1 (ro 17 1) false) .ret)) := by kernel_rfl
theorem res17 : (Try.prog.funcs[17]?).map (·.results.toList) = some [.tmp 2] := by kernel_rfl
theorem is17 : fnIsB Try.prog 17 4 = true := by kernel_rfl
theorem reg17_0 {O : Hook} {T : FT} {S : MS} {Q : FT → MS → Prop} : mOps Try.prog O 4 (ro 17 0).toList (ro 17 0).toList [] T S Q =
  (Q ((T.set (ptrTo S.n) 1).set (.nilFunc) 2) (S.fresh (Value.cells (T.get 0)).toList 0)) := by kernel_rfl
theorem reg17_1 {O : Hook} {T : FT} {S : MS} {Q : FT → MS → Prop} : mOps Try.prog O 4 (ro 17 1).toList (ro 17 1).toList [] T S Q =
  (Q ((T.set (.func (.func 22) (Array.mk []) (Array.mk [(T.get 1)])) 3).set (.func (.func 22) (Array.mk []) (Array.mk [(T.get 1)])) 2) S) := by kernel_rfl
/-! ### 18: (*windlass/outbox.Box).above$1 -/
/-! ### 19: slices.AppendSeq[[]windlass/api.Emission,windlass/api.Emission] -/
end Go.Proofs.Ytikdcdccpbnaeaa

