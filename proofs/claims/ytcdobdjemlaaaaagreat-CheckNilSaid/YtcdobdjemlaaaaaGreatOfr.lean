/- What Of answers of a superblock's block, and of noughts. -/
import Derived.Test.YtcdobdjemlaaaaaGreatLd0
import Derived.Test.YtcdobdjemlaaaaaGreatSo2
import Derived.Test.YtcdobdjemlaaaaaGreatSv1
namespace Go.Proofs.YtcdobdjemlaaaaaGreat
open Go.RowKit Wire
set_option linter.unusedVariables false
set_option linter.unusedSimpArgs false

theorem ofr_su (s : Su) (hw : s.Wf) (hm : s.May) : OfR s.bytes s 0 := ⟨.inl rfl, fun X => sof_at X s hw hm⟩
theorem gets_zero : getNs suKs ((zeros 256).drop 8) = [0, 0, 0, 0, 0, 0, 0, 0, 0, 0, 0, 0, 0, 0, 0, 0, 0, 0, 0] := by kernel_rfl
theorem ofr_zero : OfR (zeros 256) suO 4 := ⟨.inr rfl, fun X => sof_bad X (zeros 256) List.length_replicate 0 0 0 0 0 0 0 0 0 0 0 0 0 0 0 0 0 0 0 gets_zero (by omega) (by omega) (by omega) (by omega) (by omega) (by omega) (by omega) (by omega) (by omega) (by omega) (by omega) (by omega) (by omega)⟩
theorem ofr_ofc {b : List UInt8} {S : Su} {er : Int} (h : OfR b S er) (hz : er = 0 ∨ er = 4 ∧ b = zeros 256) : OfC b (suL S) er := ⟨rfl, suL_one S, hz, h.2⟩
end Go.Proofs.YtcdobdjemlaaaaaGreat
