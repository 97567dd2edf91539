/- WireShapes, walked. -/
import Derived.Test.YtgkelbdgdhkeoaaKnown1
namespace Go.Proofs.Ytgkelbdgdhkeoaa
open Go.RowKit
set_option linter.unusedVariables false
set_option linter.unusedSimpArgs false
open Wire

theorem lift_ge {c : UInt8} {b : List UInt8} {x : V} {k : Nat} (h : lift c b = some (x, k)) : wid c ≤ k := by
  unfold lift at h
  split at h
  · cases h
  split at h
  · rename_i hc
    split at h
    · cases h
    · obtain ⟨_, rfl⟩ := Prod.mk.inj (Option.some.inj h)
      subst hc
      exact Nat.le_of_eq rfl
  split at h
  · rename_i hc
    split at h
    · cases h
    · obtain ⟨_, rfl⟩ := Prod.mk.inj (Option.some.inj h)
      subst hc
      rw [show wid 42 = 4 from rfl]
      omega
  split at h
  · rename_i hc
    obtain ⟨_, rfl⟩ := Prod.mk.inj (Option.some.inj h)
    subst hc
    exact Nat.le_of_eq rfl
  · obtain ⟨_, rfl⟩ := Prod.mk.inj (Option.some.inj h)
    exact Nat.le_refl _
theorem unpack_bounds (s : List UInt8) : ∀ (b : List UInt8) (l : List V) (k : Nat), unpack s b = some (l, k) → sumW s ≤ k ∧ k ≤ b.length := by
  induction s with
  | nil =>
    intro b l k h
    obtain ⟨_, rfl⟩ := Prod.mk.inj (Option.some.inj h)
    exact ⟨by simp [sumW], Nat.zero_le _⟩
  | cons c s ih =>
    intro b l k h
    rw [unpack] at h
    cases hl : lift c b with
    | none => rw [hl] at h; cases h
    | some xq =>
      obtain ⟨x, q⟩ := xq
      rw [hl] at h
      simp only [Option.bind_some] at h
      cases hu : unpack s (b.drop q) with
      | none => rw [hu] at h; cases h
      | some lm =>
        obtain ⟨l2, m2⟩ := lm
        rw [hu] at h
        obtain ⟨_, rfl⟩ := Prod.mk.inj (Option.some.inj h)
        obtain ⟨h1, h2⟩ := ih _ _ _ hu
        have h3 := lift_ge hl
        have h4 := lift_le hl
        rw [List.length_drop] at h2
        rw [sumW_cons]
        omega
theorem unpack_least {s b : List UInt8} {l : List V} {k : Nat} (h : unpack s b = some (l, k)) : least s ≤ k ∧ k ≤ b.length := by
  obtain ⟨h1, h2⟩ := unpack_bounds s b l k h
  refine ⟨?_, h2⟩
  unfold least
  split <;> omega

end Go.Proofs.Ytgkelbdgdhkeoaa
