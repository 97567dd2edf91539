/- CheckOrders: the law returns true for every input that its row admits; nothing that was there has changed. No condition. -/
import Derived.Test.YtcdobdjemlaaaaaGreatFrame
import Derived.Test.YtcdobdjemlaaaaaGreatOpensF
namespace Go.Proofs.YtcdobdjemlaaaaaGreat.checkOrders
open Go.ChangeShapes Go.WideShapes Go.ChangeAt Go.RowKit
set_option linter.unusedVariables false

set_option maxRecDepth 100000 in
theorem lifted (os : Os) (started : os.Started) (H : Type) (enc : TypeId × Value → H) :
    ReturnsInHanded {} Tryz.checked os 6 .any (Rows.checkOrdersSpec.pre6 enc Tryz.prog Tryz.f6 Rows.checkOrdersRow.domain false) (Rows.checkOrdersSpec.post enc Tryz.prog Tryz.f6 false true false false) := by
  refine law_lifted started (by kernel_rfl) Tryz.func6 (by kernel_rfl) rfl (by kernel_rfl) Tryz.underlying4
    (ChangeSpec.witness6 (enc := enc) (C := Tryz.checked) false ⟨#[], #[.agg #[.int .i64 0, .int .u32 0, .int .u64 0, .int .u64 0], .agg #[.int .i64 0, .int .u32 0, .int .u64 0, .int .u64 0]], []⟩ 8 (by kernel_rfl) (by kernel_rfl) (by kernel_rfl) (by kernel_rfl)) ?_ ?_
  · intro W args ds p hA
    rw [Tryz.params6] at hA
    obtain ⟨v0, vs0, d0, ds0, p0, q0, hargs, rfl, rfl, h0, r0⟩ := trodAll_cons hA
    obtain ⟨v1, vs1, d1, ds1, p1, q1, rfl, rfl, rfl, h1, r1⟩ := trodAll_cons r0
    obtain ⟨rfl, rfl, rfl⟩ := trodAll_nil r1
    exact ⟨rfl, rfl, rfl⟩
  · intro W base args ds p hval hA hsz
    rw [Tryz.params6] at hA hval
    obtain ⟨v0, vs0, d0, ds0, p0, q0, hargs, rfl, rfl, h0, r0⟩ := trodAll_cons hA
    obtain ⟨v1, vs1, d1, ds1, p1, q1, rfl, rfl, rfl, h1, r1⟩ := trodAll_cons r0
    obtain ⟨rfl, rfl, rfl⟩ := trodAll_nil r1
    obtain rfl : args = #[v0, v1] := by cases args; simp_all
    obtain ⟨x0, rfl⟩ := open_flt (hval 0 83 v0 rfl rfl) h0
    obtain ⟨x1, rfl⟩ := open_flt (hval 1 83 v1 rfl rfl) h1
    exact checkOrders_at W x0 x1

theorem over : Rows.checkOrdersRow.holds Tryz.pinned (OpenSpec.ofChange Rows.checkOrdersSpec) :=
  OpenClaim.holds_of_wide 6 Tryz.f6 rfl rfl rfl rfl rfl rfl rfl ⟨rfl, rfl, rfl, rfl, rfl⟩ rfl rfl rfl rfl rfl (by kernel_rfl) Tryz.func6 (by kernel_rfl)
    (of_decide_eq_true (by kernel_rfl)) (by unfold Func.isWrapper; first | (rw [if_pos (by decide +kernel)]; kernel_rfl) | (rw [if_neg (by decide +kernel)]; exact ⟨rfl, rfl⟩))
    (fun os started H enc _ => lifted os started H enc)

theorem proved : Rows.CheckOrdersSaid := over
#print axioms proved
end Go.Proofs.YtcdobdjemlaaaaaGreat.checkOrders
