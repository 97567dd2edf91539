/- DiffNil: the law returns true for every input that its row admits; nothing that was there has changed. No condition. -/
import Derived.Test.YtgmahhdnjikdjaaGreatNG0
import Derived.Test.YtgmahhdnjikdjaaGreatNG27
set_option linter.unusedVariables false
set_option linter.unusedSimpArgs false
namespace Go.Proofs.YtgmahhdnjikdjaaGreat.diffNil
open Go.ChangeShapes Go.WideShapes Go.ChangeAt Go.RowKit
set_option linter.unusedVariables false
set_option maxRecDepth 100000 in
theorem lifted (os : Os) (started : os.Started) (H : Type) (enc : TypeId × Value → H) :
  ReturnsInHanded {} Tryz.checked os 4 .any (Rows.diffNilSpec.pre6 enc Tryz.prog Tryz.f4 Rows.diffNilRow.domain false) (Rows.diffNilSpec.post enc Tryz.prog Tryz.f4 false true false false) := by
 refine law_lifted started (by kernel_rfl) Tryz.func4 (by kernel_rfl) rfl (by kernel_rfl) Tryz.underlying4
  (ChangeSpec.witness6 (enc := enc) (C := Tryz.checked) false ⟨#[], #[], []⟩ 8 (by kernel_rfl) (by kernel_rfl) (by kernel_rfl) (by kernel_rfl)) ?_ ?_
 ·intro W args ds p hA
  rw [Tryz.params4] at hA
  obtain ⟨ha, rfl, rfl⟩ := trodAll_nil hA
  exact ⟨rfl, rfl, rfl⟩
 ·intro W base args ds p hval hA hsz
  rw [Tryz.params4] at hA hval
  obtain ⟨ha, rfl, rfl⟩ := trodAll_nil hA
  obtain rfl : args = #[] := by cases args; simp_all
  exact diffNil_walk W
theorem over : Rows.diffNilRow.holds Tryz.pinned (OpenSpec.ofChange Rows.diffNilSpec) :=
 OpenClaim.holds_of_wide 4 Tryz.f4 rfl rfl rfl rfl rfl rfl rfl ⟨rfl, rfl, rfl, rfl, rfl⟩ rfl rfl rfl rfl rfl (by kernel_rfl) Tryz.func4 (by kernel_rfl)
  (of_decide_eq_true (by kernel_rfl)) (by unfold Func.isWrapper; first | (rw [if_pos (by decide +kernel)]; kernel_rfl) | (rw [if_neg (by decide +kernel)]; exact ⟨rfl, rfl⟩))
  (fun os started H enc _ => lifted os started H enc)
theorem proved : Rows.DiffNilSaid := over
#print axioms proved
end Go.Proofs.YtgmahhdnjikdjaaGreat.diffNil
