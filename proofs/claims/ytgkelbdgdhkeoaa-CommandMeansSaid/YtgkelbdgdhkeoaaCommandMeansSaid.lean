/- CommandMeans: the law returns true for every input that its row admits; nothing that was there has changed. No condition. -/
import Derived.Test.YtgkelbdgdhkeoaaFrame
import Derived.Test.YtgkelbdgdhkeoaaOP
import Derived.Test.YtgkelbdgdhkeoaaCMeansL
namespace Go.Proofs.Ytgkelbdgdhkeoaa.commandMeans
open Go.ChangeShapes Go.WideShapes Go.ChangeAt Go.RowKit
set_option linter.unusedVariables false

set_option maxRecDepth 100000 in
theorem lifted (os : Os) (started : os.Started) (H : Type) (enc : TypeId × Value → H) :
    ReturnsInHanded {} Try.checked os 8 .any (Rows.commandMeansSpec.pre6 enc Try.prog Try.f8 Rows.commandMeansRow.domain false) (Rows.commandMeansSpec.post enc Try.prog Try.f8 false true false false) := by
  refine law_lifted started (by kernel_rfl) Try.func8 (by kernel_rfl) rfl (by kernel_rfl) Try.underlying4
    (ChangeSpec.witness6 (enc := enc) (C := Try.checked) false ⟨#[], #[.agg #[.int .i64 0, .int .u64 0, .int .u64 0, .int .i64 0, .int .i64 0, .int .i64 0, .slice none 0 0], .agg #[.int .i64 0, .int .u64 0, .int .u64 0, .int .i64 0, .int .i64 0, .int .i64 0, .slice none 0 0], .agg #[.int .i64 0, .int .i64 0, .slice none 0 0], .slice none 0 0, .slice none 0 0], []⟩ 8 (by kernel_rfl) (by kernel_rfl) (by kernel_rfl) (by kernel_rfl)) ?_ ?_
  · intro W args ds p hA
    rw [Try.params8] at hA
    obtain ⟨v0, vs0, d0, ds0, p0, q0, hargs, rfl, rfl, h0, r0⟩ := trodAll_cons hA
    obtain ⟨v1, vs1, d1, ds1, p1, q1, rfl, rfl, rfl, h1, r1⟩ := trodAll_cons r0
    obtain ⟨v2, vs2, d2, ds2, p2, q2, rfl, rfl, rfl, h2, r2⟩ := trodAll_cons r1
    obtain ⟨v3, vs3, d3, ds3, p3, q3, rfl, rfl, rfl, h3, r3⟩ := trodAll_cons r2
    obtain ⟨v4, vs4, d4, ds4, p4, q4, rfl, rfl, rfl, h4, r4⟩ := trodAll_cons r3
    obtain ⟨rfl, rfl, rfl⟩ := trodAll_nil r4
    exact ⟨rfl, rfl, rfl⟩
  · intro W base args ds p hval hA hsz
    rw [Try.params8] at hA hval
    obtain ⟨v0, vs0, d0, ds0, p0, q0, hargs, rfl, rfl, h0, r0⟩ := trodAll_cons hA
    obtain ⟨v1, vs1, d1, ds1, p1, q1, rfl, rfl, rfl, h1, r1⟩ := trodAll_cons r0
    obtain ⟨v2, vs2, d2, ds2, p2, q2, rfl, rfl, rfl, h2, r2⟩ := trodAll_cons r1
    obtain ⟨v3, vs3, d3, ds3, p3, q3, rfl, rfl, rfl, h3, r3⟩ := trodAll_cons r2
    obtain ⟨v4, vs4, d4, ds4, p4, q4, rfl, rfl, rfl, h4, r4⟩ := trodAll_cons r3
    obtain ⟨rfl, rfl, rfl⟩ := trodAll_nil r4
    obtain rfl : args = #[v0, v1, v2, v3, v4] := by cases args; simp_all
    obtain ⟨o, so, rfl, oko, hro⟩ := open_op (hval 0 26 v0 rfl rfl) h0
    obtain ⟨p, sp, rfl, okp, hrp⟩ := open_op (hval 1 26 v1 rfl rfl) h1
    obtain ⟨a, sa, rfl, oka, hra⟩ := open_ans (hval 2 47 v2 rfl rfl) h2
    obtain ⟨n0, l0, hr0⟩ := open_bytes (hval 3 24 v3 rfl rfl) h3
    obtain ⟨n1, l1, hr1⟩ := open_bytes (hval 4 24 v4 rfl rfl) h4
    have e0 : l0.length = n0 := by obtain ⟨_, _, _, hl, _⟩ := hr0; simpa [bV] using hl
    have e1 : l1.length = n1 := by obtain ⟨_, _, _, hl, _⟩ := hr1; simpa [bV] using hl
    subst e0 e1
    exact commandMeans_walk o p a l0 l1 oko okp oka so sp sa v3 v4 W hro hrp hra hr0 hr1

theorem over : Rows.commandMeansRow.holds Try.pinned (OpenSpec.ofChange Rows.commandMeansSpec) :=
  OpenClaim.holds_of_wide 8 Try.f8 rfl rfl rfl rfl rfl rfl rfl ⟨rfl, rfl, rfl, rfl, rfl⟩ rfl rfl rfl rfl rfl (by kernel_rfl) Try.func8 (by kernel_rfl)
    (of_decide_eq_true (by kernel_rfl)) (by unfold Func.isWrapper; first | (rw [if_pos (by decide +kernel)]; kernel_rfl) | (rw [if_neg (by decide +kernel)]; exact ⟨rfl, rfl⟩))
    (fun os started H enc _ => lifted os started H enc)

theorem proved : Rows.CommandMeansSaid := over
#print axioms proved
end Go.Proofs.Ytgkelbdgdhkeoaa.commandMeans
