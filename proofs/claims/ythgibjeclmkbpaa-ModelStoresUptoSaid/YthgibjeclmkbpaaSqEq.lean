import Derived.Test.YthgibjeclmkbpaaGen1
import Derived.Test.YthgibjeclmkbpaaSqTys
import Derived.Tactics
import Derived.Laws.StructEq
set_option linter.unusedSimpArgs false
set_option linter.unusedVariables false
namespace Go.Abs.Try
def eqts : Nat → Option (List TK) := fun _ => none
theorem eqts_ok (t : Nat) (ss : List TK) (h : eqts t = some ss) : EqOk Go.Proofs.Try.prog t ss := by cases h
end Go.Abs.Try
