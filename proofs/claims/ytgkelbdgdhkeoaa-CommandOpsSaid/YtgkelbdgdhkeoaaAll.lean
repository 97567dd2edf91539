/- The law's all, is, are. -/
import Derived.Test.YtgkelbdgdhkeoaaTold
namespace Go.Proofs.Ytgkelbdgdhkeoaa
open Go.RowKit
set_option linter.unusedVariables false
set_option linter.unusedSimpArgs false
open Wire

theorem infoRV : (Try.prog.info? 136).map (·.size) = some 260 := by kernel_rfl

/-- Two values that are the same by their letter. -/
def SameV (x y : V) : Prop := x.letter = y.letter ∧ (x.letter = 56 ∧ x.n = y.n ∨ x.letter = 63 ∧ x.yes = y.yes ∨ x.letter = 42 ∧ x.b = y.b ∨ x.letter = 35 ∧ x.x = y.x)

theorem zeroBlock2 (w : World) : (zeroValue 77).run Try.prog w = .ok (.agg Try.zeroCells77) w := by kernel_rfl
theorem zsz : Try.zeroCells77.size = 256 := by kernel_rfl
theorem zone : ∀ u ∈ Try.zeroCells77.toList, u.oneCell' = true := by
  have : Try.zeroCells77.toList.all (fun u => u.oneCell') = true := by kernel_rfl
  intro u hu
  exact List.all_eq_true.1 this u hu

theorem cellsU8 : Try.prog.cellsOf 5 = 1 := by kernel_rfl
theorem infoU8 : ∃ i, Try.prog.info? 5 = some i := by
  have : (Try.prog.info? 5).isSome = true := by kernel_rfl
  exact Option.isSome_iff_exists.1 this

end Go.Proofs.Ytgkelbdgdhkeoaa
