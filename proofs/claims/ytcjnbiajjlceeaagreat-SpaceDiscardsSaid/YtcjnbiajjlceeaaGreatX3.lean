/- Functions, printed by gen.py. -/
import Derived.Test.YtcjnbiajjlceeaaGreatX2
set_option linter.unusedSimpArgs false
set_option linter.unusedVariables false
set_option maxRecDepth 100000
namespace Go.Hc
open Go Go.Proofs
end Go.Hc
