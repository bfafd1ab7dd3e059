import Derived.Test.YtecjmbaepioobaaGreatLift
import Derived.Test.YtecjmbaepioobaaGreatRowLib
set_option linter.unusedSimpArgs false
set_option linter.unusedVariables false
namespace Go.Abs
open Go.ChangeShapes Go.WideShapes Go.ChangeAt Go.RowKit Go.ChangeMaps
section
variable {H : Type} {enc : TypeId × Value → H} {P : Program} {W : World} {bulk : DataW H → Nat}
end
end Go.Abs
