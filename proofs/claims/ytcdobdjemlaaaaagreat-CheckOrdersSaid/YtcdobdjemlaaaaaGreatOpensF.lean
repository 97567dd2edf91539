/- How an argument that is a fault looks. -/
import Derived.Lib.SmallJoins
import Derived.Test.YtcdobdjemlaaaaaGreatFrame
import Derived.Test.YtcdobdjemlaaaaaGreatCk5
namespace Go.Proofs.YtcdobdjemlaaaaaGreat
open Go.ChangeShapes Go.WideShapes Go.ChangeAt Go.RowKit Go.Deep
set_option linter.unusedVariables false

theorem cellsFlt : Tryz.prog.cellsOf 83 = 4 := by kernel_rfl
theorem wf_u64F {n : Int} (h : (Lit.int .u64 n).wf = true) : 0 ≤ n ∧ n < 18446744073709551616 := by
  have h2 : 0 ≤ n ∧ n ≤ 18446744073709551615 := by simpa [Lit.wf, IntKind.min, IntKind.max, IntKind.signed, IntKind.bits] using h
  omega
theorem wf_u32F {n : Int} (h : (Lit.int .u32 n).wf = true) : 0 ≤ n ∧ n < 4294967296 := by
  have h2 : 0 ≤ n ∧ n ≤ 4294967295 := by simpa [Lit.wf, IntKind.min, IntKind.max, IntKind.signed, IntKind.bits] using h
  omega
set_option maxRecDepth 100000 in
theorem open_flt {H : Type} {enc : TypeId × Value → H} {w : World} {base b0 : Nat} {spare : Nat → Bool} {held : Bool} {v : Value} {d : DataW H} {p : List MemPlace}
    (hv : Value.okWide Tryz.prog w .any b0 83 v) (h : DataW.Trod enc Tryz.prog w base spare held 83 v d p) : ∃ x : Flt, v = .agg (fltC x) := by
  obtain ⟨c0, c1, c2, c3, y0, y1, y2, y3, m, rfl, _, _, h0, h1, h2, h3⟩ := Go.Joins.open_agg4 Tryz.underlying83 (by kernel_rfl) cellsFlt hv h
  obtain ⟨a, e0, _, _⟩ := DataW.trod_int Tryz.underlying81 h0
  obtain ⟨b, e1, _, wb⟩ := DataW.trod_int Tryz.underlying24 h1
  obtain ⟨c, e2, _, wc⟩ := DataW.trod_int Tryz.underlying23 h2
  obtain ⟨f, e3, _, wf⟩ := DataW.trod_int Tryz.underlying23 h3
  simp only [List.cons.injEq, and_true] at e0 e1 e2 e3
  subst e0 e1 e2 e3
  obtain ⟨n1, rfl⟩ : ∃ n : Nat, b = (n : Int) := ⟨b.toNat, by have := (wf_u32F wb).1; omega⟩
  obtain ⟨n2, rfl⟩ : ∃ n : Nat, c = (n : Int) := ⟨c.toNat, by have := (wf_u64F wc).1; omega⟩
  obtain ⟨n3, rfl⟩ : ∃ n : Nat, f = (n : Int) := ⟨f.toNat, by have := (wf_u64F wf).1; omega⟩
  exact ⟨⟨a, n1, n2, n3⟩, rfl⟩
end Go.Proofs.YtcdobdjemlaaaaaGreat
