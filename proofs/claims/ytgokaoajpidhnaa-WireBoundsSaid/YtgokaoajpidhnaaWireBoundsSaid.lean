/- WireBounds: the law returns true for every input that its row admits; nothing that was there has changed. No condition. -/
import Derived.Test.YtgokaoajpidhnaaFrame
import Derived.Test.YtgokaoajpidhnaaBoundsL
namespace Go.Proofs.Ytgokaoajpidhnaa.wireBounds
open Go.ChangeShapes Go.WideShapes Go.ChangeAt Go.RowKit
set_option linter.unusedVariables false

set_option maxRecDepth 100000 in
theorem lifted (os : Os) (started : os.Started) (H : Type) (enc : TypeId × Value → H) :
    ReturnsInHanded {} Try.checked os 14 .any (Rows.wireBoundsSpec.pre6 enc Try.prog Try.f14 Rows.wireBoundsRow.domain false) (Rows.wireBoundsSpec.post enc Try.prog Try.f14 false true false false) := by
  refine law_lifted started (by kernel_rfl) Try.func14 (by kernel_rfl) rfl (by kernel_rfl) Try.underlying4
    (ChangeSpec.witness6 (enc := enc) (C := Try.checked) false ⟨#[], #[], []⟩ 8 (by kernel_rfl) (by kernel_rfl) (by kernel_rfl) (by kernel_rfl)) ?_ ?_
  · intro W args ds p hA
    rw [Try.params14] at hA
    obtain ⟨ha, rfl, rfl⟩ := trodAll_nil hA
    exact ⟨rfl, rfl, rfl⟩
  · intro W base args ds p hval hA hsz
    rw [Try.params14] at hA hval
    obtain ⟨ha, rfl, rfl⟩ := trodAll_nil hA
    obtain rfl : args = #[] := by cases args; simp_all
    exact wireBounds_walk W

theorem over : Rows.wireBoundsRow.holds Try.pinned (OpenSpec.ofChange Rows.wireBoundsSpec) :=
  OpenClaim.holds_of_wide 14 Try.f14 rfl rfl rfl rfl rfl rfl rfl ⟨rfl, rfl, rfl, rfl, rfl⟩ rfl rfl rfl rfl rfl (by kernel_rfl) Try.func14 (by kernel_rfl)
    (of_decide_eq_true (by kernel_rfl)) (by unfold Func.isWrapper; first | (rw [if_pos (by decide +kernel)]; kernel_rfl) | (rw [if_neg (by decide +kernel)]; exact ⟨rfl, rfl⟩))
    (fun os started H enc _ => lifted os started H enc)

theorem proved : Rows.WireBoundsSaid := over
#print axioms proved
end Go.Proofs.Ytgokaoajpidhnaa.wireBounds
