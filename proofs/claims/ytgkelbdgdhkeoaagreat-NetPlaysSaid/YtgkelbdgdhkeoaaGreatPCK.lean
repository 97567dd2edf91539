/- Several texts in one: Known13 Part13. -/
import Derived.Test.YtgkelbdgdhkeoaaGreatPCB
namespace Go.Proofs.YtgkelbdgdhkeoaaGreat
open Go.RowKit
set_option linter.unusedVariables false
set_option linter.unusedSimpArgs false
open Wire Cmd
def k8 : Op0 := ⟨8, 0, 0, 0, 0, 0, []⟩
def k2 : Op0 := ⟨2, 1, 0, 0, 0, 0, []⟩
def k5 : Op0 := ⟨5, 1, 0, 0, 0, 0, List.replicate 64 0⟩
theorem PackP.yes {w w' : World} {o : Option (List UInt8)} {bs : List UInt8} {e : Ending} (h : PackP w o e w') (ho : o = some bs) : ∃ ao cap, e = .returned (.tuple #[.slice ao bs.length cap, .int .i64 0]) ∧ Below w.heap.size w w' ∧ w'.ownsRow w.heap.size 5 1 (.slice ao bs.length cap) bs.length (bV bs) := by
 obtain ⟨hb, hP⟩ := h
 rw [ho] at hP
 obtain ⟨v', rfl, ho'⟩ := hP
 obtain ⟨ao, cap, rfl, _⟩ := Rd.of_own ho'
 exact ⟨ao, cap, rfl, hb, ho'⟩
end Go.Proofs.YtgkelbdgdhkeoaaGreat
/- command.Part, walked. -/
namespace Go.Proofs.YtgkelbdgdhkeoaaGreat
open Go.RowKit
set_option linter.unusedVariables false
set_option linter.unusedSimpArgs false
open Wire Cmd
end Go.Proofs.YtgkelbdgdhkeoaaGreat
