/- The reference's Split of a row of sectors (sector by sector), walked. -/
import Derived.Test.YthkmihedkddnmaaPartSame
namespace Go.Proofs.Ythkmihedkddnmaa
open Go.RowKit
set_option linter.unusedVariables false

theorem pSpans_len (a c : Nat) : (pSpans a c).length = pM a c := by simp [pSpans]
theorem pSpans_get {a c i : Nat} (h : i < pM a c) : (pSpans a c)[i]? = some (pSpan a c i) := by simp [pSpans, h]

theorem pM_eq {a c : Nat} (h : c ≠ 0) : pM a c = (a + c + 3) / 4 - a / 4 := if_neg h
theorem pM_zero (a : Nat) : pM a 0 = 0 := rfl

/-- One sector more opens a part. -/
theorem pSpans_new {a c : Nat} (h : c = 0 ∨ (a + c) % 4 = 0) : pSpans a (c + 1) = pSpans a c ++ [⟨(a + c) / 4, (a + c) % 4, (a + c) % 4 + 1⟩] := by
  have hm : pM a (c + 1) = pM a c + 1 := by
    rw [pM_eq (by omega)]
    by_cases h0 : c = 0
    · subst h0; rw [pM_zero]; omega
    · rw [pM_eq h0]; omega
  unfold pSpans
  rw [hm, List.range_succ, List.map_append, List.map_cons, List.map_nil]
  congr 1
  · apply List.map_congr_left
    intro i hi
    simp only [List.mem_range] at hi
    simp only [pSpan, PSpan.mk.injEq, true_and]
    unfold pTo
    unfold pM at hi
    split at hi <;> omega
  · simp only [pSpan, List.cons.injEq, PSpan.mk.injEq, and_true]
    unfold pBlk pFrom pTo pM
    rcases h with h | h <;> split <;> omega

/-- One sector more belongs to the last part. -/
theorem pSpans_ext {a c : Nat} (h0 : c ≠ 0) (h : (a + c) % 4 ≠ 0) : pM a (c + 1) = pM a c ∧ 1 ≤ pM a c ∧ (pSpan a c (pM a c - 1)).blk = (a + c) / 4 ∧
    pSpans a (c + 1) = (pSpans a c).set (pM a c - 1) ⟨(a + c) / 4, (pSpan a c (pM a c - 1)).lo, (a + c) % 4 + 1⟩ := by
  have hm : pM a (c + 1) = pM a c := by rw [pM_eq (by omega), pM_eq h0]; omega
  have hp : 1 ≤ pM a c := pM_pos (by omega)
  refine ⟨hm, hp, ?_, ?_⟩
  · simp only [pSpan, pBlk]; unfold pM at *; split <;> omega
  · apply List.ext_getElem?
    intro i
    rw [List.getElem?_set, pSpans_len]
    by_cases hi : i < pM a c
    · rw [pSpans_get (by omega), pSpans_get hi]
      by_cases he : pM a c - 1 = i
      · rw [if_pos he, if_pos (by omega)]
        simp only [pSpan, Option.some.injEq, PSpan.mk.injEq]
        rw [he]
        unfold pBlk pFrom pTo pM at *
        split at he <;> omega
      · rw [if_neg he]
        simp only [pSpan, Option.some.injEq, PSpan.mk.injEq, true_and]
        unfold pTo pM at *
        split at he <;> omega
    · rw [List.getElem?_eq_none (by rw [pSpans_len]; omega), List.getElem?_eq_none (by rw [pSpans_len]; omega)]
      split
      · rw [if_neg (by omega)]
      · rfl

theorem spansCells_set {l : List PSpan} {k : Nat} {s t : PSpan} (h : l[k]? = some s) (hb : t.blk = s.blk) (hl : t.lo = s.lo) : (spansCells l).set (k * 3 + 2) (.int .i64 t.hi) = spansCells (l.set k t) := by
  induction l generalizing k with
  | nil => simp at h
  | cons x l ih =>
    cases k with
    | zero =>
      simp at h; subst h
      simp [spansCells, spanCells, hb, hl]
    | succ k =>
      simp at h
      have := ih h
      have e : (k + 1) * 3 + 2 = k * 3 + 2 + 3 := by omega
      rw [e]
      simp only [spansCells, List.flatMap_cons, List.set_cons_succ] at *
      rw [← this]
      simp [spanCells]

end Go.Proofs.Ythkmihedkddnmaa
