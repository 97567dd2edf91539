/- CommandReads, walked. -/
import Derived.Test.YtgkelbdgdhkeoaaGreatPCR
import Derived.Test.YtgkelbdgdhkeoaaGreatPCK
namespace Go.Proofs.YtgkelbdgdhkeoaaGreat
open Go.RowKit
set_option linter.unusedVariables false
set_option linter.unusedSimpArgs false
open Wire Cmd
end Go.Proofs.YtgkelbdgdhkeoaaGreat
