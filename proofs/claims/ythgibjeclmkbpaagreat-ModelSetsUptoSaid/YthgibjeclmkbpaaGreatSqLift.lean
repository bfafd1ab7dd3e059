import Derived.Test.YthgibjeclmkbpaaGreatLift
import Derived.Test.YthgibjeclmkbpaaGreatSqW2
import Derived.Test.YthgibjeclmkbpaaGreatRows
set_option linter.unusedSimpArgs false
set_option linter.unusedVariables false
namespace Go.Abs.Try
open Go.RowKit Go.Proofs Go.Proofs.YthgibjeclmkbpaaGreat
set_option maxRecDepth 100000
section
variable {H : Type} {enc : TypeId × Value → H} {W : World}
theorem bulkAll : ∀ l : List (DataW H), Rows.uptoBulkAll l = (l.map Rows.uptoBulk).sum
 | [] => by simp only [Rows.uptoBulkAll, List.map_nil, List.sum_nil]
 | d :: r => by simp only [Rows.uptoBulkAll, List.map_cons, List.sum_cons, bulkAll r]
theorem bulkOk : Bulk (H := H) Rows.uptoBulk where
 str := fun s => by simp only [Rows.uptoBulk]; omega
 lit := fun l => by cases l <;> simp only [Rows.uptoBulk] <;> omega
 nil := by simp only [Rows.uptoBulk]; omega
 slice := fun es sp => by simp only [Rows.uptoBulk, bulkAll]; omega
 agg := fun ps => by simp only [Rows.uptoBulk, bulkAll]; omega
theorem cells3 : Proofs.Tryz.prog.cellsOf 3 = 1 := by kernel_rfl
theorem cells2 : Proofs.Tryz.prog.cellsOf 2 = 1 := by kernel_rfl
theorem cells9 : Proofs.Tryz.prog.cellsOf 9 = 1 := by kernel_rfl
end
end Go.Abs.Try
