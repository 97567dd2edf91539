/- NetMeans: the law returns true for every input that its row admits; nothing that was there has changed. No condition. -/
import Derived.Test.YtgkelbdgdhkeoaaNFrame
import Derived.Test.YtgkelbdgdhkeoaaNOpensN
import Derived.Test.YtgkelbdgdhkeoaaNNetMeansL
namespace Go.Proofs.Ytgkelbdgdhkeoaa.netMeans
open Go.ChangeShapes Go.WideShapes Go.ChangeAt Go.RowKit
set_option linter.unusedVariables false
set_option maxRecDepth 100000 in
theorem lifted (os : Os) (started : os.Started) (H : Type) (enc : TypeId × Value → H) :
  ReturnsInHanded {} Try.checked os 11 .any (Rows.netMeansSpec.pre6 enc Try.prog Try.f11 Rows.netMeansRow.domain false) (Rows.netMeansSpec.post enc Try.prog Try.f11 false true false false) := by
 refine law_lifted started (by kernel_rfl) Try.func11 (by kernel_rfl) rfl (by kernel_rfl) Try.underlying4
  (ChangeSpec.witness6 (enc := enc) (C := Try.checked) false ⟨#[], #[.slice none 0 0], []⟩ 8 (by kernel_rfl) (by kernel_rfl) (by kernel_rfl) (by kernel_rfl)) ?_ ?_
 ·intro W args ds p hA
  rw [Try.params11] at hA
  obtain ⟨v0, vs0, d0, ds0, p0, q0, hargs, rfl, rfl, h0, r0⟩ := trodAll_cons hA
  obtain ⟨rfl, rfl, rfl⟩ := trodAll_nil r0
  exact ⟨rfl, rfl, rfl⟩
 ·intro W base args ds p hval hA hsz
  rw [Try.params11] at hA hval
  obtain ⟨v0, vs0, d0, ds0, p0, q0, hargs, rfl, rfl, h0, r0⟩ := trodAll_cons hA
  obtain ⟨rfl, rfl, rfl⟩ := trodAll_nil r0
  obtain rfl : args = #[v0] := by cases args; simp_all
  obtain ⟨ao, n, cap, l, rfl, hs⟩ := open_steps (hval 0 88 v0 rfl rfl) h0
  exact netMeans_walk ao n cap l W hs
theorem over : Rows.netMeansRow.holds Try.pinned (OpenSpec.ofChange Rows.netMeansSpec) :=
 OpenClaim.holds_of_wide 11 Try.f11 rfl rfl rfl rfl rfl rfl rfl ⟨rfl, rfl, rfl, rfl, rfl⟩ rfl rfl rfl rfl rfl (by kernel_rfl) Try.func11 (by kernel_rfl)
  (of_decide_eq_true (by kernel_rfl)) (by unfold Func.isWrapper; first | (rw [if_pos (by decide +kernel)]; kernel_rfl) | (rw [if_neg (by decide +kernel)]; exact ⟨rfl, rfl⟩))
  (fun os started H enc _ => lifted os started H enc)
theorem proved : Rows.NetMeansSaid := over
#print axioms proved
end Go.Proofs.Ytgkelbdgdhkeoaa.netMeans
