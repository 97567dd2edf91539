/- The reference's Same, walked. (Printed by msg1.py.) -/
import Derived.Test.YtgkelbdgdhkeoaaNMsg2
import Derived.Test.YtgkelbdgdhkeoaaNMsg3
namespace Go.Proofs.Ytgkelbdgdhkeoaa
open Go.RowKit
set_option linter.unusedVariables false
set_option linter.unusedSimpArgs false
open Wire Cmd
end Go.Proofs.Ytgkelbdgdhkeoaa
