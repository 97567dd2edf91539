/- CommandReads, walked. -/
import Derived.Test.YtgkelbdgdhkeoaaSCR
import Derived.Test.YtgkelbdgdhkeoaaSCK
namespace Go.Proofs.Ytgkelbdgdhkeoaa
open Go.RowKit
set_option linter.unusedVariables false
set_option linter.unusedSimpArgs false
open Wire Cmd
theorem oC_list (o : Op0) {w : World} {n : Nat} {xs : List Value} {sl : Value} (hr : Rd w 1 sl n xs) : ∃ C : List Value, oC o sl = C.toArray ∧ C.length = 7 ∧ ∀ u ∈ C, u.oneCell' = true := ⟨_, rfl, rfl, by
 obtain ⟨_, _, rfl, _⟩ := hr
 intro u hu
 simp only [List.mem_cons, List.not_mem_nil, or_false] at hu
 rcases hu with rfl | rfl | rfl | rfl | rfl | rfl | rfl <;> rfl⟩
end Go.Proofs.Ytgkelbdgdhkeoaa
