/- The reference's May, walked. -/
import Derived.Test.YthkmihedkddnmaaCA
namespace Go.Proofs.Ythkmihedkddnmaa
open Go.RowKit
set_option linter.unusedVariables false
set_option linter.unusedSimpArgs false
open Wire Cmd

end Go.Proofs.Ythkmihedkddnmaa
