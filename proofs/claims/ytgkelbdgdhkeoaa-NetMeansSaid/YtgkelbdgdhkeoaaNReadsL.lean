/- CommandReads, walked. -/
import Derived.Test.YtgkelbdgdhkeoaaNCR
import Derived.Test.YtgkelbdgdhkeoaaNCK
namespace Go.Proofs.Ytgkelbdgdhkeoaa
open Go.RowKit
set_option linter.unusedVariables false
set_option linter.unusedSimpArgs false
open Wire Cmd
end Go.Proofs.Ytgkelbdgdhkeoaa
