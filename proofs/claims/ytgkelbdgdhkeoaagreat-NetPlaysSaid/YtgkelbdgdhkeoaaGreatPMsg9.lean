/- The values of what a letter stands for, walked. -/
import Derived.Test.YtgkelbdgdhkeoaaGreatPMsg8
namespace Go.Proofs.YtgkelbdgdhkeoaaGreat
open Go.RowKit
set_option linter.unusedVariables false
set_option linter.unusedSimpArgs false
open Wire Cmd
end Go.Proofs.YtgkelbdgdhkeoaaGreat
