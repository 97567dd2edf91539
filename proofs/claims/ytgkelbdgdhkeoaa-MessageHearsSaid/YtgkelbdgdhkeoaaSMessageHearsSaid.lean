/- MessageHears: the law returns true for every input that its row admits; nothing that was there has changed. No condition. -/
import Derived.Test.YtgkelbdgdhkeoaaSFrame
import Derived.Test.YtgkelbdgdhkeoaaSOP
import Derived.Test.YtgkelbdgdhkeoaaSMHearsL
namespace Go.Proofs.Ytgkelbdgdhkeoaa.messageHears
open Go.ChangeShapes Go.WideShapes Go.ChangeAt Go.RowKit
set_option linter.unusedVariables false
set_option maxRecDepth 100000 in
theorem lifted (os : Os) (started : os.Started) (H : Type) (enc : TypeId × Value → H) :
  ReturnsInHanded {} Try.checked os 14 .any (Rows.messageHearsSpec.pre6 enc Try.prog Try.f14 Rows.messageHearsRow.domain false) (Rows.messageHearsSpec.post enc Try.prog Try.f14 false true false false) := by
 refine law_lifted started (by kernel_rfl) Try.func14 (by kernel_rfl) rfl (by kernel_rfl) Try.underlying4
  (ChangeSpec.witness6 (enc := enc) (C := Try.checked) false ⟨#[], #[.slice none 0 0], []⟩ 8 (by kernel_rfl) (by kernel_rfl) (by kernel_rfl) (by kernel_rfl)) ?_ ?_
 ·intro W args ds p hA
  rw [Try.params14] at hA
  obtain ⟨v0, vs0, d0, ds0, p0, q0, hargs, rfl, rfl, h0, r0⟩ := trodAll_cons hA
  obtain ⟨rfl, rfl, rfl⟩ := trodAll_nil r0
  exact ⟨rfl, rfl, rfl⟩
 ·intro W base args ds p hval hA hsz
  rw [Try.params14] at hA hval
  obtain ⟨v0, vs0, d0, ds0, p0, q0, hargs, rfl, rfl, h0, r0⟩ := trodAll_cons hA
  obtain ⟨rfl, rfl, rfl⟩ := trodAll_nil r0
  obtain rfl : args = #[v0] := by cases args; simp_all
  obtain ⟨n0, l0, hr0⟩ := open_bytes (hval 0 24 v0 rfl rfl) h0
  have e0 : l0.length = n0 := by obtain ⟨_, _, _, hl, _⟩ := hr0; simpa [bV] using hl
  subst e0
  exact messageHears_walk l0 v0 W hr0
theorem over : Rows.messageHearsRow.holds Try.pinned (OpenSpec.ofChange Rows.messageHearsSpec) :=
 OpenClaim.holds_of_wide 14 Try.f14 rfl rfl rfl rfl rfl rfl rfl ⟨rfl, rfl, rfl, rfl, rfl⟩ rfl rfl rfl rfl rfl (by kernel_rfl) Try.func14 (by kernel_rfl)
  (of_decide_eq_true (by kernel_rfl)) (by unfold Func.isWrapper; first | (rw [if_pos (by decide +kernel)]; kernel_rfl) | (rw [if_neg (by decide +kernel)]; exact ⟨rfl, rfl⟩))
  (fun os started H enc _ => lifted os started H enc)
theorem proved : Rows.MessageHearsSaid := over
#print axioms proved
end Go.Proofs.Ytgkelbdgdhkeoaa.messageHears
