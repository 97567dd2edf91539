/- The law's own comparison of two rows of parts, walked. -/
import Derived.Test.YthkmihedkddnmaaPartSplit
namespace Go.Proofs.Ythkmihedkddnmaa
open Go.RowKit
set_option linter.unusedVariables false

theorem spansCells_get {l : List PSpan} {k : Nat} {s : PSpan} (h : l[k]? = some s) : (spansCells l)[k * 3]? = some (.int .i64 s.blk) ∧ (spansCells l)[k * 3 + 1]? = some (.int .i64 s.lo) ∧ (spansCells l)[k * 3 + 2]? = some (.int .i64 s.hi) := by
  induction l generalizing k with
  | nil => simp at h
  | cons t l ih =>
    cases k with
    | zero =>
      simp at h; subst h
      simp [spansCells, spanCells]
    | succ k =>
      simp at h
      have := ih h
      have e0 : (k + 1) * 3 = 3 + k * 3 := by omega
      have e1 : (k + 1) * 3 + 1 = 3 + (k * 3 + 1) := by omega
      have e2 : (k + 1) * 3 + 2 = 3 + (k * 3 + 2) := by omega
      have g : ∀ j, (spansCells (t :: l))[3 + j]? = (spansCells l)[j]? := by
        intro j
        simp only [spansCells, List.flatMap_cons]
        rw [List.getElem?_append_right (by simp [spanCells])]
        simp [spanCells]
      rw [e1, e2, e0, g, g, g]
      exact this

/-- Element k of a row of parts that can be read: its three cells. -/
theorem rd_span {w : World} {ao : Option Addr} {l : List PSpan} (hc : ∀ j u, (spansCells l)[j]? = some u → ∃ b off, ao = some ⟨b, off, none⟩ ∧ b < w.heap.size ∧ w.cell? ⟨b, off + j, none⟩ = some u) {k : Nat} {s : PSpan} (h : l[k]? = some s) :
    ∃ b off, ao = some ⟨b, off, none⟩ ∧ b < w.heap.size ∧ w.cell? ⟨b, off + k * 3, none⟩ = some (.int .i64 s.blk) ∧ w.cell? ⟨b, off + k * 3 + 1, none⟩ = some (.int .i64 s.lo) ∧ w.cell? ⟨b, off + k * 3 + 2, none⟩ = some (.int .i64 s.hi) := by
  obtain ⟨h0, h1, h2⟩ := spansCells_get h
  obtain ⟨b, off, e0, hb, c0⟩ := hc _ _ h0
  obtain ⟨b1, off1, e1, _, c1⟩ := hc _ _ h1
  obtain ⟨b2, off2, e2, _, c2⟩ := hc _ _ h2
  subst e0
  obtain ⟨rfl, rfl⟩ : b = b1 ∧ off = off1 := by simpa using e1
  obtain ⟨rfl, rfl⟩ : b = b2 ∧ off = off2 := by simpa using e2
  exact ⟨b, off, rfl, hb, c0, c1, c2⟩

end Go.Proofs.Ythkmihedkddnmaa
