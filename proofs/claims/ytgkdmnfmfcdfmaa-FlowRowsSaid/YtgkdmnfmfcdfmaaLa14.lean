/-
  The walk through the code of blocks and of what is reached, part L14: what its functions do to memory. Nothing is asked.
-/
import Derived.Test.YtgkdmnfmfcdfmaaLa13
set_option linter.all false
namespace Go.Proofs.Ytgkdmnfmfcdfmaa
open Go Go.Ag
set_option linter.unusedVariables false

theorem bd_ret (c a : Int) : bdS (fun i => [(0, 1), (1, 1), (2, 1), (3, 1), (4, 1)][i]?) [.int .i64 0, .int .i64 0, .int .i64 0, .int .i64 0, .int .i64 0] [(0, .int .i64 c), (2, .int .i64 a)] = some (.agg (opL ⟨c, 0, a, 0, 0⟩).toArray) := by
  simp [bdS, fillL, spliceL, cells_int, opL]
theorem bd_unless (c a k : Int) : bdS (fun i => [(0, 1), (1, 1), (2, 1), (3, 1), (4, 1)][i]?) [.int .i64 0, .int .i64 0, .int .i64 0, .int .i64 0, .int .i64 0] [(0, .int .i64 c), (2, .int .i64 a), (4, .int .i64 k)] = some (.agg (opL ⟨c, 0, a, 0, k⟩).toArray) := by
  simp [bdS, fillL, spliceL, cells_int, opL]
theorem bd_jump (c k : Int) : bdS (fun i => [(0, 1), (1, 1), (2, 1), (3, 1), (4, 1)][i]?) [.int .i64 0, .int .i64 0, .int .i64 0, .int .i64 0, .int .i64 0] [(0, .int .i64 c), (4, .int .i64 k)] = some (.agg (opL ⟨c, 0, 0, 0, k⟩).toArray) := by
  simp [bdS, fillL, spliceL, cells_int, opL]
theorem opL_len (o : Op5) : (opL o).length = 5 := rfl
theorem opL_one (o : Op5) : (opL o).all oneCell = true := rfl
end Go.Proofs.Ytgkdmnfmfcdfmaa

