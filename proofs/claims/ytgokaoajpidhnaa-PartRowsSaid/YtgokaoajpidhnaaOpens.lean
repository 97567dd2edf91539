/- How arguments of this seat's types that can be read look: an int; a part (three ints by value); bytes. -/
import Derived.Lib.SmallJoins
import Derived.Test.YtgokaoajpidhnaaFrame
import Derived.Test.YtgokaoajpidhnaaBase
namespace Go.Proofs.Ytgokaoajpidhnaa
open Go.ChangeShapes Go.WideShapes Go.ChangeAt Go.RowKit
set_option linter.unusedVariables false

theorem wf_i64 {n : Int} (h : (Lit.int .i64 n).wf = true) : -9223372036854775808 ≤ n ∧ n ≤ 9223372036854775807 := by
  simpa [Lit.wf, IntKind.min, IntKind.max, IntKind.signed, IntKind.bits] using h

theorem cellsSpan : Try.prog.cellsOf 28 = 3 := by kernel_rfl

set_option maxRecDepth 100000 in
theorem open_span {H : Type} {enc : TypeId × Value → H} {w : World} {base b0 : Nat} {spare : Nat → Bool} {held : Bool} {v : Value} {d : DataW H} {p : List MemPlace}
    (hv : Value.okWide Try.prog w .any b0 28 v) (h : DataW.Trod enc Try.prog w base spare held 28 v d p) :
    ∃ b f t : Int, v = .agg #[.int .i64 b, .int .i64 f, .int .i64 t] ∧ (Lit.int .i64 b).wf = true ∧ (Lit.int .i64 f).wf = true ∧ (Lit.int .i64 t).wf = true := by
  obtain ⟨c0, c1, c2, y0, y1, y2, m, rfl, _, _, h0, h1, h2⟩ := Go.Joins.open_agg3 Try.underlying28 (by kernel_rfl) cellsSpan hv h
  obtain ⟨b, e0, _, wb⟩ := DataW.trod_int Try.underlying3 h0
  obtain ⟨f, e1, _, wf⟩ := DataW.trod_int Try.underlying3 h1
  obtain ⟨t, e2, _, wt⟩ := DataW.trod_int Try.underlying3 h2
  simp only [List.cons.injEq, and_true] at e0 e1 e2
  subst e0 e1 e2
  exact ⟨b, f, t, rfl, wb, wf, wt⟩
end Go.Proofs.Ytgokaoajpidhnaa
