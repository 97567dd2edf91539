/- The reference's flag, walked. -/
import Derived.Test.YtgkelbdgdhkeoaaSMsg5
import Derived.Test.YtgkelbdgdhkeoaaSCB
namespace Go.Proofs.Ytgkelbdgdhkeoaa
open Go.RowKit
set_option linter.unusedVariables false
set_option linter.unusedSimpArgs false
open Wire Cmd
set_option maxRecDepth 100000 in
set_option maxHeartbeats 1600000 in
theorem flag19_any (b : Bool) (w : World) : Calls Try.prog 124 #[.bool b] w fun e w' => ∃ v, e = .returned v ∧ w'.ownsRow w.heap.size 5 1 v 1 (bV [if b then 1 else 0]) ∧ Below w.heap.size w w' := by
 cases b
 all_goals
  go_enter Try.func124, Try.ntmps124
  go_wp2_with fail
  go_ret
  exact ⟨_, rfl, own_new w _ (Nat.le_refl _) _ [.int .u8 _] 1 rfl, balloc (Below.refl _ _) _⟩
end Go.Proofs.Ytgkelbdgdhkeoaa
