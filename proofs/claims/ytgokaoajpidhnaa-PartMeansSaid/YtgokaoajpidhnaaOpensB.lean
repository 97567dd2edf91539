/- How an argument that is a block by value looks. -/
import Derived.Test.YtgokaoajpidhnaaOpensV
namespace Go.Proofs.Ytgokaoajpidhnaa
open Go.ChangeShapes Go.WideShapes Go.ChangeAt Go.RowKit Go.Deep
set_option linter.unusedVariables false

set_option maxRecDepth 100000 in
theorem open_block {H : Type} {enc : TypeId × Value → H} {w : World} {base b0 : Nat} {held : Bool} {v : Value} {d : DataW H} {p : List MemPlace}
    (hv : Value.okWide Try.prog w .any b0 40 v) (h : DataW.Trod enc Try.prog w base (fun _ => true) held 40 v d p) : ∃ l : List UInt8, v = bA l ∧ l.length = 256 := by
  have hv2 : ∃ cs, v = .agg cs := by
    simp only [Value.okWide, Try.underlying40] at hv
    obtain ⟨cs, h1, _⟩ := hv
    exact ⟨cs, h1⟩
  obtain ⟨cs, rfl⟩ := hv2
  obtain ⟨fuel, hf⟩ := h
  have hc : (Value.agg cs).cells.toList = cs.toList := rfl
  rw [hc] at hf
  obtain ⟨h1, h2⟩ := block_of_trod hf
  refine ⟨cs.toList.map byteOf, ?_, by simpa using h2⟩
  unfold bA
  rw [← h1]
end Go.Proofs.Ytgokaoajpidhnaa
