/- The reference's Same, walked. (Printed by msg1.py.) -/
import Derived.Test.YtgkelbdgdhkeoaaGreatPMsg2
import Derived.Test.YtgkelbdgdhkeoaaGreatPMsg3
namespace Go.Proofs.YtgkelbdgdhkeoaaGreat
open Go.RowKit
set_option linter.unusedVariables false
set_option linter.unusedSimpArgs false
open Wire Cmd
end Go.Proofs.YtgkelbdgdhkeoaaGreat
