import Derived.Test.YthgibjeclmkbpaaDMs4toDMs8
set_option linter.unusedSimpArgs false
set_option linter.unusedVariables false
namespace Go.Abs.Try
set_option maxRecDepth 100000
end Go.Abs.Try
