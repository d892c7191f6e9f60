import Derived.Test.YtejbcaheoloahaaAbStr
set_option maxRecDepth 100000
set_option linter.unusedVariables false
set_option linter.unusedSimpArgs false
/-! Floats: what is not a number, what is zero. -/
namespace Go.Ab
open Go

end Go.Ab
