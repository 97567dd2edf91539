/- WirePacks: the law returns true for every input that its row admits; nothing that was there has changed. No condition. -/
import Derived.Test.YtgokaoajpidhnaaFrame
import Derived.Test.YtgokaoajpidhnaaOpensV
import Derived.Test.YtgokaoajpidhnaaPacksL
namespace Go.Proofs.Ytgokaoajpidhnaa.wirePacks
open Go.ChangeShapes Go.WideShapes Go.ChangeAt Go.RowKit
set_option linter.unusedVariables false

set_option maxRecDepth 100000 in
theorem lifted (os : Os) (started : os.Started) (H : Type) (enc : TypeId × Value → H) :
    ReturnsInHanded {} Try.checked os 10 .any (Rows.wirePacksSpec.pre6 enc Try.prog Try.f10 Rows.wirePacksRow.domain false) (Rows.wirePacksSpec.post enc Try.prog Try.f10 false true false false) := by
  refine law_lifted started (by kernel_rfl) Try.func10 (by kernel_rfl) rfl (by kernel_rfl) Try.underlying4
    (ChangeSpec.witness6 (enc := enc) (C := Try.checked) false ⟨#[], #[.string ⟨#[]⟩, .slice none 0 0], []⟩ 8 (by kernel_rfl) (by kernel_rfl) (by kernel_rfl) (by kernel_rfl)) ?_ ?_
  · intro W args ds p hA
    rw [Try.params10] at hA
    obtain ⟨v0, vs0, d0, ds0, p0, q0, hargs, rfl, rfl, h0, r0⟩ := trodAll_cons hA
    obtain ⟨v1, vs1, d1, ds1, p1, q1, rfl, rfl, rfl, h1, r1⟩ := trodAll_cons r0
    obtain ⟨rfl, rfl, rfl⟩ := trodAll_nil r1
    exact ⟨rfl, rfl, rfl⟩
  · intro W base args ds p hval hA hsz
    rw [Try.params10] at hA hval
    obtain ⟨v0, vs0, d0, ds0, p0, q0, hargs, rfl, rfl, h0, r0⟩ := trodAll_cons hA
    obtain ⟨v1, vs1, d1, ds1, p1, q1, rfl, rfl, rfl, h1, r1⟩ := trodAll_cons r0
    obtain ⟨rfl, rfl, rfl⟩ := trodAll_nil r1
    obtain rfl : args = #[v0, v1] := by cases args; simp_all
    obtain ⟨s, rfl⟩ := okWide_string Try.underlying9 (hval 0 9 v0 rfl rfl)
    obtain ⟨ao, n, cap, l, rfl, hv⟩ := open_rvs (hval 1 77 v1 rfl rfl) h1
    exact wirePacks_walk s ao n cap l W hv

theorem over : Rows.wirePacksRow.holds Try.pinned (OpenSpec.ofChange Rows.wirePacksSpec) :=
  OpenClaim.holds_of_wide 10 Try.f10 rfl rfl rfl rfl rfl rfl rfl ⟨rfl, rfl, rfl, rfl, rfl⟩ rfl rfl rfl rfl rfl (by kernel_rfl) Try.func10 (by kernel_rfl)
    (of_decide_eq_true (by kernel_rfl)) (by unfold Func.isWrapper; first | (rw [if_pos (by decide +kernel)]; kernel_rfl) | (rw [if_neg (by decide +kernel)]; exact ⟨rfl, rfl⟩))
    (fun os started H enc _ => lifted os started H enc)

theorem proved : Rows.WirePacksSaid := over
#print axioms proved
end Go.Proofs.Ytgokaoajpidhnaa.wirePacks
