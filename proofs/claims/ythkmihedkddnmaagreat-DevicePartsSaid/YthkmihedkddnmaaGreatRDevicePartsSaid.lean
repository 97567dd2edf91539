/- DeviceParts: the law returns true for every input that its row admits; nothing that was there has changed. No condition. -/
import Derived.Test.YthkmihedkddnmaaGreatRG0
import Derived.Test.YthkmihedkddnmaaGreatRG38
import Derived.Test.YthkmihedkddnmaaGreatRG39
set_option linter.unusedVariables false
set_option linter.unusedSimpArgs false
namespace Go.Proofs.YthkmihedkddnmaaGreat.deviceParts
open Go.ChangeShapes Go.WideShapes Go.ChangeAt Go.RowKit
set_option maxRecDepth 100000 in
theorem lifted (os : Os) (started : os.Started) (H : Type) (enc : TypeId × Value → H) :
  ReturnsInHanded {} Tryz.checked os 4 .any (Rows.devicePartsSpec.pre6 enc Tryz.prog Tryz.f4 Rows.devicePartsRow.domain false) (Rows.devicePartsSpec.post enc Tryz.prog Tryz.f4 false true false false) := by
 refine law_lifted started (by kernel_rfl) Tryz.func4 (by kernel_rfl) rfl (by kernel_rfl) Tryz.underlying4
  (ChangeSpec.witness6 (enc := enc) (C := Tryz.checked) false ⟨#[], #[.slice none 0 0, .agg #[.int .i64 0, .int .u64 0, .int .u64 0, .int .i64 0, .int .i64 0, .int .i64 0, .slice none 0 0], .int .i64 0, .agg #[.int .u64 0, .int .i64 0], .agg (Array.replicate 256 (.int .u8 0))], []⟩ 8 (by kernel_rfl) (by kernel_rfl) (by kernel_rfl) (by kernel_rfl)) ?_ ?_
 ·intro W args ds p hA
  rw [Tryz.params4] at hA
  obtain ⟨v0, vs0, d0, ds0, p0, q0, hargs, rfl, rfl, h0, r0⟩ := trodAll_cons hA
  obtain ⟨v1, vs1, d1, ds1, p1, q1, rfl, rfl, rfl, h1, r1⟩ := trodAll_cons r0
  obtain ⟨v2, vs2, d2, ds2, p2, q2, rfl, rfl, rfl, h2, r2⟩ := trodAll_cons r1
  obtain ⟨v3, vs3, d3, ds3, p3, q3, rfl, rfl, rfl, h3, r3⟩ := trodAll_cons r2
  obtain ⟨v4, vs4, d4, ds4, p4, q4, rfl, rfl, rfl, h4, r4⟩ := trodAll_cons r3
  obtain ⟨rfl, rfl, rfl⟩ := trodAll_nil r4
  exact ⟨rfl, rfl, rfl⟩
 ·intro W base args ds p hval hA hsz
  rw [Tryz.params4] at hA hval
  obtain ⟨v0, vs0, d0, ds0, p0, q0, hargs, rfl, rfl, h0, r0⟩ := trodAll_cons hA
  obtain ⟨v1, vs1, d1, ds1, p1, q1, rfl, rfl, rfl, h1, r1⟩ := trodAll_cons r0
  obtain ⟨v2, vs2, d2, ds2, p2, q2, rfl, rfl, rfl, h2, r2⟩ := trodAll_cons r1
  obtain ⟨v3, vs3, d3, ds3, p3, q3, rfl, rfl, rfl, h3, r3⟩ := trodAll_cons r2
  obtain ⟨v4, vs4, d4, ds4, p4, q4, rfl, rfl, rfl, h4, r4⟩ := trodAll_cons r3
  obtain ⟨rfl, rfl, rfl⟩ := trodAll_nil r4
  obtain rfl : args = #[v0, v1, v2, v3, v4] := by cases args; simp_all
  obtain ⟨ao, n, cap, L, rfl, hL⟩ := open_ops (hval 0 22 v0 rfl rfl) h0
  obtain ⟨o, sl, rfl, ok, hd⟩ := open_op (hval 1 40 v1 rfl rfl) h1
  obtain ⟨bl, rfl, _, _, w2⟩ := open_int Tryz.underlying3 (hval 2 3 v2 rfl rfl) h2
  obtain ⟨sn, sk, rfl, hsn, hsk⟩ := open_spot (hval 3 48 v3 rfl rfl) h3
  obtain ⟨c, rfl, hc⟩ := open_block (hval 4 50 v4 rfl rfl) h4
  obtain ⟨so, co, rfl, _⟩ := id hd
  exact devParts_any ao n cap L o so co bl sn sk c W hL ok hd (wf_i64 w2) hsn hsk hc
theorem over : Rows.devicePartsRow.holds Tryz.pinned (OpenSpec.ofChange Rows.devicePartsSpec) :=
 OpenClaim.holds_of_wide 4 Tryz.f4 rfl rfl rfl rfl rfl rfl rfl ⟨rfl, rfl, rfl, rfl, rfl⟩ rfl rfl rfl rfl rfl (by kernel_rfl) Tryz.func4 (by kernel_rfl)
  (of_decide_eq_true (by kernel_rfl)) (by unfold Func.isWrapper; first | (rw [if_pos (by decide +kernel)]; kernel_rfl) | (rw [if_neg (by decide +kernel)]; exact ⟨rfl, rfl⟩))
  (fun os started H enc _ => lifted os started H enc)
theorem proved : Rows.DevicePartsSaid := over
#print axioms proved
end Go.Proofs.YthkmihedkddnmaaGreat.deviceParts
