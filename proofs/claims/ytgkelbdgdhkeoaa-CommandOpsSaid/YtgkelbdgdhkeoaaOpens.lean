/- How arguments of this seat's types that can be read look: an int; a part (three ints by value); bytes. -/
import Derived.Lib.SmallJoins
import Derived.Test.YtgkelbdgdhkeoaaFrame
import Derived.Test.YtgkelbdgdhkeoaaBytes
namespace Go.Proofs.Ytgkelbdgdhkeoaa
open Go.ChangeShapes Go.WideShapes Go.ChangeAt Go.RowKit
set_option linter.unusedVariables false

theorem wf_i64 {n : Int} (h : (Lit.int .i64 n).wf = true) : -9223372036854775808 ≤ n ∧ n ≤ 9223372036854775807 := by
  simpa [Lit.wf, IntKind.min, IntKind.max, IntKind.signed, IntKind.bits] using h

set_option maxRecDepth 100000 in
theorem open_bytes {H : Type} {enc : TypeId × Value → H} {w : World} {base b0 : Nat} {held : Bool} {v : Value} {d : DataW H} {p : List MemPlace}
    (hv : Value.okWide Try.prog w .any b0 24 v) (h : DataW.Trod enc Try.prog w base (fun _ => true) held 24 v d p) : ∃ n bs, Rd w 1 v n (bV bs) := by
  obtain ⟨a0, len, cap, rfl⟩ := okWide_slice Try.underlying24 hv
  obtain ⟨fuel, hf⟩ := h
  rcases open_ints Try.underlying24 Try.underlying5 (by kernel_rfl) hf with ⟨hcs, _⟩ | ⟨x, l, c, zs, hcs, _, hl, hm, hz, _, hcell, hwz⟩
  · simp [Value.cells] at hcs
    obtain ⟨rfl, rfl, rfl⟩ := hcs
    exact ⟨0, [], none, 0, rfl, by simp [bV], by simp, ⟨fun _ => rfl, by simp, by simp⟩, fun j u hj => by simp [bV] at hj⟩
  · simp [Value.cells] at hcs
    obtain ⟨rfl, rfl, rfl⟩ := hcs
    replace hz : zs.length = cap := by simpa using hz
    refine ⟨len, (zs.take len).map fun z => UInt8.ofNat z.toNat, some x, cap, rfl, ?_, by omega, ⟨(fun h => by cases h), hl, hm⟩, fun j u hj => ?_⟩
    · rw [bV_len, List.length_map, List.length_take]; omega
    · have hjl : j < len := by
        have := (List.getElem?_eq_some_iff.1 hj).1
        rw [bV_len, List.length_map, List.length_take] at this
        omega
      obtain ⟨b, off, spot⟩ := x
      have hc := hcell j (by omega)
      have hspot : spot = none := by
        have h0 := hcell 0 (by omega)
        simpa [Addr.add] using World.cell?_spot h0
      subst hspot
      rw [Addr.add_lit] at hc
      refine ⟨b, off, rfl, World.block_lt_of_cell? w _ hc, ?_⟩
      rw [hc]
      have hzj : zs[j]? = some zs[j] := List.getElem?_eq_getElem (by omega)
      have hw := hwz zs[j] (List.getElem_mem _)
      have hr : 0 ≤ zs[j] ∧ zs[j] ≤ 255 := by simpa [Lit.wf, IntKind.min, IntKind.max, IntKind.signed, IntKind.bits] using hw
      simp only [bV, List.getElem?_map, List.getElem?_take, hjl, if_true, hzj, Option.map_some] at hj
      rw [← hj]
      simp only [List.getD_eq_getElem?_getD, hzj, Option.getD_some, Option.some.injEq, Value.int.injEq, true_and]
      simp
      omega
end Go.Proofs.Ytgkelbdgdhkeoaa
