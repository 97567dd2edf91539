/- MessageSpeaks: the law returns true for every input that its row admits; nothing that was there has changed. No condition. -/
import Derived.Test.YtgkelbdgdhkeoaaSFrame
import Derived.Test.YtgkelbdgdhkeoaaSOP
import Derived.Test.YtgkelbdgdhkeoaaSOpensM
import Derived.Test.YtgkelbdgdhkeoaaSMSpeaksL
namespace Go.Proofs.Ytgkelbdgdhkeoaa.messageSpeaks
open Go.ChangeShapes Go.WideShapes Go.ChangeAt Go.RowKit
set_option linter.unusedVariables false
set_option maxRecDepth 100000 in
theorem lifted (os : Os) (started : os.Started) (H : Type) (enc : TypeId × Value → H) :
  ReturnsInHanded {} Try.checked os 13 .any (Rows.messageSpeaksSpec.pre6 enc Try.prog Try.f13 Rows.messageSpeaksRow.domain false) (Rows.messageSpeaksSpec.post enc Try.prog Try.f13 false true false false) := by
 refine law_lifted started (by kernel_rfl) Try.func13 (by kernel_rfl) rfl (by kernel_rfl) Try.underlying4
  (ChangeSpec.witness6 (enc := enc) (C := Try.checked) false ⟨#[], #[.agg Try.zeroCells81], []⟩ 8 (by kernel_rfl) (by kernel_rfl) (by kernel_rfl) (by kernel_rfl)) ?_ ?_
 ·intro W args ds p hA
  rw [Try.params13] at hA
  obtain ⟨v0, vs0, d0, ds0, p0, q0, hargs, rfl, rfl, h0, r0⟩ := trodAll_cons hA
  obtain ⟨rfl, rfl, rfl⟩ := trodAll_nil r0
  exact ⟨rfl, rfl, rfl⟩
 ·intro W base args ds p hval hA hsz
  rw [Try.params13] at hA hval
  obtain ⟨v0, vs0, d0, ds0, p0, q0, hargs, rfl, rfl, h0, r0⟩ := trodAll_cons hA
  obtain ⟨rfl, rfl, rfl⟩ := trodAll_nil r0
  obtain rfl : args = #[v0] := by cases args; simp_all
  obtain ⟨m, s1, s2, rfl, ok, r1, r2⟩ := open_ms (hval 0 81 v0 rfl rfl) h0
  exact messageSpeaks_walk m ok s1 s2 W r1 r2
theorem over : Rows.messageSpeaksRow.holds Try.pinned (OpenSpec.ofChange Rows.messageSpeaksSpec) :=
 OpenClaim.holds_of_wide 13 Try.f13 rfl rfl rfl rfl rfl rfl rfl ⟨rfl, rfl, rfl, rfl, rfl⟩ rfl rfl rfl rfl rfl (by kernel_rfl) Try.func13 (by kernel_rfl)
  (of_decide_eq_true (by kernel_rfl)) (by unfold Func.isWrapper; first | (rw [if_pos (by decide +kernel)]; kernel_rfl) | (rw [if_neg (by decide +kernel)]; exact ⟨rfl, rfl⟩))
  (fun os started H enc _ => lifted os started H enc)
theorem proved : Rows.MessageSpeaksSaid := over
#print axioms proved
end Go.Proofs.Ytgkelbdgdhkeoaa.messageSpeaks
