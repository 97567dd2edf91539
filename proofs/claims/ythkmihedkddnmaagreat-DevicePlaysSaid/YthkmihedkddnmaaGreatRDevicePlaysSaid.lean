/- DevicePlays: the law returns true for every input that its row admits; nothing that was there has changed. No condition. -/
import Derived.Test.YthkmihedkddnmaaGreatRG0
import Derived.Test.YthkmihedkddnmaaGreatRG18
import Derived.Test.YthkmihedkddnmaaGreatRG36
set_option linter.unusedVariables false
set_option linter.unusedSimpArgs false
namespace Go.Proofs.YthkmihedkddnmaaGreat.devicePlays
open Go.ChangeShapes Go.WideShapes Go.ChangeAt Go.RowKit
set_option maxRecDepth 100000 in
theorem lifted (os : Os) (started : os.Started) (H : Type) (enc : TypeId × Value → H) :
  ReturnsInHanded {} Tryz.checked os 3 .any (Rows.devicePlaysSpec.pre6 enc Tryz.prog Tryz.f3 Rows.devicePlaysRow.domain false) (Rows.devicePlaysSpec.post enc Tryz.prog Tryz.f3 false true false false) := by
 refine law_lifted started (by kernel_rfl) Tryz.func3 (by kernel_rfl) rfl (by kernel_rfl) Tryz.underlying4
  (ChangeSpec.witness6 (enc := enc) (C := Tryz.checked) false ⟨#[], #[.slice none 0 0, .int .i64 0], []⟩ 8 (by kernel_rfl) (by kernel_rfl) (by kernel_rfl) (by kernel_rfl)) ?_ ?_
 ·intro W args ds p hA
  rw [Tryz.params3] at hA
  obtain ⟨v0, vs0, d0, ds0, p0, q0, hargs, rfl, rfl, h0, r0⟩ := trodAll_cons hA
  obtain ⟨v1, vs1, d1, ds1, p1, q1, rfl, rfl, rfl, h1, r1⟩ := trodAll_cons r0
  obtain ⟨rfl, rfl, rfl⟩ := trodAll_nil r1
  exact ⟨rfl, rfl, rfl⟩
 ·intro W base args ds p hval hA hsz
  rw [Tryz.params3] at hA hval
  obtain ⟨v0, vs0, d0, ds0, p0, q0, hargs, rfl, rfl, h0, r0⟩ := trodAll_cons hA
  obtain ⟨v1, vs1, d1, ds1, p1, q1, rfl, rfl, rfl, h1, r1⟩ := trodAll_cons r0
  obtain ⟨rfl, rfl, rfl⟩ := trodAll_nil r1
  obtain rfl : args = #[v0, v1] := by cases args; simp_all
  obtain ⟨ao, n, cap, l, rfl, hs⟩ := open_ops (hval 0 22 v0 rfl rfl) h0
  obtain ⟨i, rfl, _⟩ := okWide_int Tryz.underlying3 (hval 1 3 v1 rfl rfl)
  exact devPlays_any ao n cap l i W hs
theorem over : Rows.devicePlaysRow.holds Tryz.pinned (OpenSpec.ofChange Rows.devicePlaysSpec) :=
 OpenClaim.holds_of_wide 3 Tryz.f3 rfl rfl rfl rfl rfl rfl rfl ⟨rfl, rfl, rfl, rfl, rfl⟩ rfl rfl rfl rfl rfl (by kernel_rfl) Tryz.func3 (by kernel_rfl)
  (of_decide_eq_true (by kernel_rfl)) (by unfold Func.isWrapper; first | (rw [if_pos (by decide +kernel)]; kernel_rfl) | (rw [if_neg (by decide +kernel)]; exact ⟨rfl, rfl⟩))
  (fun os started H enc _ => lifted os started H enc)
theorem proved : Rows.DevicePlaysSaid := over
#print axioms proved
end Go.Proofs.YthkmihedkddnmaaGreat.devicePlays
