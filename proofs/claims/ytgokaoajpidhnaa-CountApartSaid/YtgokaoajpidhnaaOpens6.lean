/- How the arguments of the laws on count look: numbers; acts. -/
import Derived.Lib.SmallJoins
import Derived.Deep.SlicePairs
import Derived.Test.YtgokaoajpidhnaaFrame
import Derived.Test.YtgokaoajpidhnaaDo6
namespace Go.Proofs.Ytgokaoajpidhnaa
open Go.ChangeShapes Go.WideShapes Go.ChangeAt Go.RowKit
set_option linter.unusedVariables false

/-- The slice value v reads as n acts. -/
def Acts (w : World) (v : Value) (n : Nat) : Prop :=
  ∃ ao cap, v = .slice ao n cap ∧ n ≤ maxLen ∧ ∀ i, i < n → ∃ b off k m, ao = some ⟨b, off, none⟩ ∧ b < w.heap.size ∧ w.cell? ⟨b, off + i * 2, none⟩ = some (.int .i64 k) ∧ w.cell? ⟨b, off + i * 2 + 1, none⟩ = some (.int .i64 m)
theorem Acts.below {w w' : World} {v : Value} {n : Nat} (h : Acts w v n) (hb : Below w.heap.size w w') : Acts w' v n := by
  obtain ⟨ao, cap, rfl, hm, hc⟩ := h
  refine ⟨ao, cap, rfl, hm, fun i hi => ?_⟩
  obtain ⟨b, off, k, m, ha, hl, h0, h1⟩ := hc i hi
  exact ⟨b, off, k, m, ha, Nat.lt_of_lt_of_le hl hb.size, (hb.cell (p := ⟨b, off + i * 2, none⟩) hl).trans h0, (hb.cell (p := ⟨b, off + i * 2 + 1, none⟩) hl).trans h1⟩

theorem cellsAct : Try.prog.cellsOf 58 = 2 := by kernel_rfl

set_option maxRecDepth 100000 in
theorem open_acts {H : Type} {enc : TypeId × Value → H} {w : World} {base b0 : Nat} {held : Bool} {v : Value} {d : DataW H} {p : List MemPlace}
    (hv : Value.okWide Try.prog w .any b0 48 v) (h : DataW.Trod enc Try.prog w base (fun _ => true) held 48 v d p) : ∃ n, Acts w v n := by
  obtain ⟨a0, len, cap, rfl⟩ := okWide_slice Try.underlying48 hv
  obtain ⟨fuel, hf⟩ := h
  rcases Go.Deep.open_slice_pairs Try.underlying48 Try.underlying58 cellsAct rfl rfl (by kernel_rfl) (by kernel_rfl) hf with ⟨hcs, _⟩ | ⟨a, l, c, m, n, V0, V1, D0, D1, P0, P1, hcs, _, hl, hm, hmm, _, hi⟩
  · simp [Value.cells] at hcs
    obtain ⟨rfl, rfl, rfl⟩ := hcs
    exact ⟨0, none, 0, rfl, by simp, fun i hi => by omega⟩
  · simp [Value.cells] at hcs
    obtain ⟨rfl, rfl, rfl⟩ := hcs
    refine ⟨len, some a, cap, rfl, by omega, fun i hlt => ?_⟩
    obtain ⟨h0, h1, t0, t1⟩ := hi i (by rw [hmm]; simp; omega)
    obtain ⟨k, e0, _, _⟩ := DataW.trod_int Try.underlying3 t0
    obtain ⟨q, e1, _, _⟩ := DataW.trod_int Try.underlying3 t1
    simp only [List.cons.injEq, and_true] at e0 e1
    obtain ⟨b, off, spot⟩ := a
    have hspot : spot = none := by
      have h00 := (hi 0 (by rw [hmm]; simp; omega)).1
      simpa [Addr.add] using World.cell?_spot h00
    subst hspot
    rw [Addr.add_lit] at h0 h1
    exact ⟨b, off, k, q, rfl, World.block_lt_of_cell? w _ h0, by rw [h0, e0], by rw [← Nat.add_assoc] at h1; rw [h1, e1]⟩

set_option maxRecDepth 100000 in
theorem open_u16s {H : Type} {enc : TypeId × Value → H} {w : World} {base b0 : Nat} {held : Bool} {v : Value} {d : DataW H} {p : List MemPlace}
    (hv : Value.okWide Try.prog w .any b0 47 v) (h : DataW.Trod enc Try.prog w base (fun _ => true) held 47 v d p) : ∃ n xs, Rd w 1 v n (kV .u16 xs) ∧ ∀ x ∈ xs, x < 65536 := by
  obtain ⟨a0, len, cap, rfl⟩ := okWide_slice Try.underlying47 hv
  obtain ⟨fuel, hf⟩ := h
  rcases open_ints Try.underlying47 Try.underlying65 (by kernel_rfl) hf with ⟨hcs, _⟩ | ⟨x, l, c, zs, hcs, _, hl, hm, hz, _, hcell, hwz⟩
  · simp [Value.cells] at hcs
    obtain ⟨rfl, rfl, rfl⟩ := hcs
    exact ⟨0, [], ⟨none, 0, rfl, by simp [kV], by simp, ⟨fun _ => rfl, by simp, by simp⟩, fun j u hj => by simp [kV] at hj⟩, by simp⟩
  · simp [Value.cells] at hcs
    obtain ⟨rfl, rfl, rfl⟩ := hcs
    replace hz : zs.length = cap := by simpa using hz
    have hrng : ∀ z ∈ zs, 0 ≤ z ∧ z ≤ 65535 := fun z hz => by simpa [Lit.wf, IntKind.min, IntKind.max, IntKind.signed, IntKind.bits] using hwz z hz
    refine ⟨len, (zs.take len).map fun z => z.toNat, ⟨some x, cap, rfl, ?_, by omega, ⟨(fun h => by cases h), hl, hm⟩, fun j u hj => ?_⟩, ?_⟩
    · rw [kV_len, List.length_map, List.length_take]; omega
    · have hjl : j < len := by
        have := (List.getElem?_eq_some_iff.1 hj).1
        rw [kV_len, List.length_map, List.length_take] at this
        omega
      obtain ⟨b, off, spot⟩ := x
      have hc := hcell j (by omega)
      have hspot : spot = none := by
        have h0 := hcell 0 (by omega)
        simpa [Addr.add] using World.cell?_spot h0
      subst hspot
      rw [Addr.add_lit] at hc
      refine ⟨b, off, rfl, World.block_lt_of_cell? w _ hc, ?_⟩
      rw [hc]
      have hzj : zs[j]? = some zs[j] := List.getElem?_eq_getElem (by omega)
      have hr := hrng zs[j] (List.getElem_mem _)
      simp only [kV, List.getElem?_map, List.getElem?_take, hjl, if_true, hzj, Option.map_some] at hj
      rw [← hj]
      simp only [List.getD_eq_getElem?_getD, hzj, Option.getD_some, Option.some.injEq, Value.int.injEq, true_and]
      omega
    · intro y hy
      obtain ⟨z, hz, rfl⟩ := List.mem_map.1 hy
      have := hrng z (List.mem_of_mem_take hz)
      omega
end Go.Proofs.Ytgokaoajpidhnaa
