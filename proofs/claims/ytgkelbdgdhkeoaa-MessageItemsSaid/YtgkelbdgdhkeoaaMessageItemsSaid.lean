/- MessageItems: the law returns true for every input that its row admits; nothing that was there has changed. No condition. -/
import Derived.Test.YtgkelbdgdhkeoaaFrame
import Derived.Test.YtgkelbdgdhkeoaaOP
import Derived.Test.YtgkelbdgdhkeoaaOpensM
import Derived.Test.YtgkelbdgdhkeoaaMItemsL
namespace Go.Proofs.Ytgkelbdgdhkeoaa.messageItems
open Go.ChangeShapes Go.WideShapes Go.ChangeAt Go.RowKit
set_option linter.unusedVariables false

set_option maxRecDepth 100000 in
theorem lifted (os : Os) (started : os.Started) (H : Type) (enc : TypeId × Value → H) :
    ReturnsInHanded {} Try.checked os 16 .any (Rows.messageItemsSpec.pre6 enc Try.prog Try.f16 Rows.messageItemsRow.domain false) (Rows.messageItemsSpec.post enc Try.prog Try.f16 false true false false) := by
  refine law_lifted started (by kernel_rfl) Try.func16 (by kernel_rfl) rfl (by kernel_rfl) Try.underlying4
    (ChangeSpec.witness6 (enc := enc) (C := Try.checked) false ⟨#[], #[.agg Try.zeroCells79, .int .u64 0, .int .u64 0], []⟩ 8 (by kernel_rfl) (by kernel_rfl) (by kernel_rfl) (by kernel_rfl)) ?_ ?_
  · intro W args ds p hA
    rw [Try.params16] at hA
    obtain ⟨v0, vs0, d0, ds0, p0, q0, hargs, rfl, rfl, h0, r0⟩ := trodAll_cons hA
    obtain ⟨v1, vs1, d1, ds1, p1, q1, rfl, rfl, rfl, h1, r1⟩ := trodAll_cons r0
    obtain ⟨v2, vs2, d2, ds2, p2, q2, rfl, rfl, rfl, h2, r2⟩ := trodAll_cons r1
    obtain ⟨rfl, rfl, rfl⟩ := trodAll_nil r2
    exact ⟨rfl, rfl, rfl⟩
  · intro W base args ds p hval hA hsz
    rw [Try.params16] at hA hval
    obtain ⟨v0, vs0, d0, ds0, p0, q0, hargs, rfl, rfl, h0, r0⟩ := trodAll_cons hA
    obtain ⟨v1, vs1, d1, ds1, p1, q1, rfl, rfl, rfl, h1, r1⟩ := trodAll_cons r0
    obtain ⟨v2, vs2, d2, ds2, p2, q2, rfl, rfl, rfl, h2, r2⟩ := trodAll_cons r1
    obtain ⟨rfl, rfl, rfl⟩ := trodAll_nil r2
    obtain rfl : args = #[v0, v1, v2] := by cases args; simp_all
    obtain ⟨i, sl, rfl, ok, g1⟩ := open_it (hval 0 79 v0 rfl rfl) h0
    obtain ⟨a, rfl, ha⟩ := open_u64 (hval 1 23 v1 rfl rfl) h1
    obtain ⟨b, rfl, hb⟩ := open_u64 (hval 2 23 v2 rfl rfl) h2
    exact messageItems_walk i ok a b ha hb sl W g1

theorem over : Rows.messageItemsRow.holds Try.pinned (OpenSpec.ofChange Rows.messageItemsSpec) :=
  OpenClaim.holds_of_wide 16 Try.f16 rfl rfl rfl rfl rfl rfl rfl ⟨rfl, rfl, rfl, rfl, rfl⟩ rfl rfl rfl rfl rfl (by kernel_rfl) Try.func16 (by kernel_rfl)
    (of_decide_eq_true (by kernel_rfl)) (by unfold Func.isWrapper; first | (rw [if_pos (by decide +kernel)]; kernel_rfl) | (rw [if_neg (by decide +kernel)]; exact ⟨rfl, rfl⟩))
    (fun os started H enc _ => lifted os started H enc)

theorem proved : Rows.MessageItemsSaid := over
#print axioms proved
end Go.Proofs.Ytgkelbdgdhkeoaa.messageItems
