/- What message.Of answers, in one form. -/
import Derived.Test.YtgkelbdgdhkeoaaSMCom
import Derived.Test.YtgkelbdgdhkeoaaSMsg34
namespace Go.Proofs.Ytgkelbdgdhkeoaa
open Go.RowKit
set_option linter.unusedVariables false
set_option linter.unusedSimpArgs false
open Wire Cmd
theorem ofM_cases (bs : List UInt8) : (ofM bs = none ∧ oM (ofM bs) = ms0 ∧ eA (ofM bs) = 4 ∧ (ofM bs).isSome = false) ∨ (ofM bs = some (oM (ofM bs)) ∧ eA (ofM bs) = 0 ∧ (ofM bs).isSome = true) := by
 cases ofM bs with
 | none => exact .inl ⟨rfl, rfl, rfl, rfl⟩
 | some m => exact .inr ⟨rfl, rfl, rfl⟩
theorem oM_data (bs : List UInt8) : (oM (ofM bs)).item.data.length = 256 := by
 cases h : ofM bs with
 | none => exact z256_len
 | some m => exact (ofM_ok h).1.item.data
end Go.Proofs.Ytgkelbdgdhkeoaa
