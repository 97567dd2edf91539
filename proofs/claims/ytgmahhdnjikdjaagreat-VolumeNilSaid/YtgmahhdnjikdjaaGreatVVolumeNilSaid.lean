/- VolumeNil: the law returns true for every input that its row admits; nothing that was there has changed. No condition. -/
import Derived.Test.YtgmahhdnjikdjaaGreatVG0
import Derived.Test.YtgmahhdnjikdjaaGreatVG32
set_option linter.unusedVariables false
set_option linter.unusedSimpArgs false
namespace Go.Proofs.YtgmahhdnjikdjaaGreat.volumeNil
open Go.ChangeShapes Go.WideShapes Go.ChangeAt Go.RowKit
set_option linter.unusedVariables false
set_option maxRecDepth 100000 in
theorem lifted (os : Os) (started : os.Started) (H : Type) (enc : TypeId × Value → H) :
  ReturnsInHanded {} Tryz.checked os 3 .any (Rows.volumeNilSpec.pre6 enc Tryz.prog Tryz.f3 Rows.volumeNilRow.domain false) (Rows.volumeNilSpec.post enc Tryz.prog Tryz.f3 false true false false) := by
 refine law_lifted started (by kernel_rfl) Tryz.func3 (by kernel_rfl) rfl (by kernel_rfl) Tryz.underlying4
  (ChangeSpec.witness6 (enc := enc) (C := Tryz.checked) false ⟨#[], #[], []⟩ 8 (by kernel_rfl) (by kernel_rfl) (by kernel_rfl) (by kernel_rfl)) ?_ ?_
 ·intro W args ds p hA
  rw [Tryz.params3] at hA
  obtain ⟨ha, rfl, rfl⟩ := trodAll_nil hA
  exact ⟨rfl, rfl, rfl⟩
 ·intro W base args ds p hval hA hsz
  rw [Tryz.params3] at hA hval
  obtain ⟨ha, rfl, rfl⟩ := trodAll_nil hA
  obtain rfl : args = #[] := by cases args; simp_all
  exact volumeNil_walk W
theorem over : Rows.volumeNilRow.holds Tryz.pinned (OpenSpec.ofChange Rows.volumeNilSpec) :=
 OpenClaim.holds_of_wide 3 Tryz.f3 rfl rfl rfl rfl rfl rfl rfl ⟨rfl, rfl, rfl, rfl, rfl⟩ rfl rfl rfl rfl rfl (by kernel_rfl) Tryz.func3 (by kernel_rfl)
  (of_decide_eq_true (by kernel_rfl)) (by unfold Func.isWrapper; first | (rw [if_pos (by decide +kernel)]; kernel_rfl) | (rw [if_neg (by decide +kernel)]; exact ⟨rfl, rfl⟩))
  (fun os started H enc _ => lifted os started H enc)
theorem proved : Rows.VolumeNilSaid := over
#print axioms proved
end Go.Proofs.YtgmahhdnjikdjaaGreat.volumeNil
