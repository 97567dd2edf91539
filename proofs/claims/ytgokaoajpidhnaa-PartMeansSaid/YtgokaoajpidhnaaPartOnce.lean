/- The law's own walk over part.Over: where the parts are those that are wanted it says true, wherever it leaves. -/
import Derived.Sort.QuietIn
import Derived.Test.YtgokaoajpidhnaaPartRef
namespace Go.Proofs.Ytgokaoajpidhnaa
open Go.RowKit Go.Shelf
set_option linter.unusedVariables false
attribute [local go_sem] Oper.semAt_some

theorem pItemsI_spans (a c : Int) : (pItemsI a c).map (·.2) = pSpansI a c := by
  unfold pItemsI pSpansI
  split
  · simp [pItems, pSpans, pItem]
  · rfl

/-- How many sectors the parts of a list have. -/
def sumP : List PSpan → Int
  | [] => 0
  | s :: l => (s.hi : Int) - s.lo + sumP l
theorem sumP_snoc (l : List PSpan) (s : PSpan) : sumP (l ++ [s]) = sumP l + ((s.hi : Int) - s.lo) := by
  induction l with
  | nil => simp [sumP]
  | cons t l ih => simp only [List.cons_append, sumP, ih]; omega

/-- What the law's loop has come to when pre has come: none: it goes on; else what it has answered. -/
def onceAt (ws : List PSpan) (most : Int) : List (Nat × PSpan) → Nat → Option Bool
  | [], _ => none
  | x :: r, i => if ws[i]? = some x.2 ∧ (x.1 : Int) = sumP (ws.take i) then (if (i : Int) + 1 = most then some true else onceAt ws most r (i + 1)) else some false

theorem onceAt_snoc (ws : List PSpan) (most : Int) : ∀ (pre : List (Nat × PSpan)) (i : Nat) (x : Nat × PSpan), onceAt ws most pre i = none →
    onceAt ws most (pre ++ [x]) i = if ws[i + pre.length]? = some x.2 ∧ (x.1 : Int) = sumP (ws.take (i + pre.length)) then (if ((i + pre.length : Nat) : Int) + 1 = most then some true else none) else some false := by
  intro pre
  induction pre with
  | nil =>
    intro i x _
    simp only [List.nil_append, onceAt, List.length_nil, Nat.add_zero]
  | cons y pre ih =>
    intro i x h
    simp only [onceAt] at h
    split at h
    · rename_i hy
      split at h
      · cases h
      · rename_i hm
        simp only [List.cons_append, onceAt, if_pos hy, if_neg hm]
        rw [ih (i + 1) x h]
        have e : i + 1 + pre.length = i + (y :: pre).length := by simp only [List.length_cons]; omega
        rw [e]
    · cases h

/-- Items that are as they should be: each is the wanted one, behind the right number of sectors. -/
def goodItems (ws : List PSpan) (l : List (Nat × PSpan)) (i : Nat) : Prop := ∀ j, (h : j < l.length) → ws[i + j]? = some l[j].2 ∧ (l[j].1 : Int) = sumP (ws.take (i + j))

theorem onceAt_good {ws : List PSpan} {most : Int} : ∀ {l : List (Nat × PSpan)} {i : Nat}, goodItems ws l i → ∀ pre, pre <+: l → onceAt ws most pre i ≠ some false := by
  intro l
  induction l with
  | nil =>
    intro i _ pre hp
    obtain rfl := List.prefix_nil.1 hp
    simp [onceAt]
  | cons x l ih =>
    intro i hg pre hp
    cases pre with
    | nil => simp [onceAt]
    | cons y pre =>
      obtain ⟨rfl, hp'⟩ := List.cons_prefix_cons.1 hp
      have h0 := hg 0 (by simp)
      simp only [Nat.add_zero, List.getElem_cons_zero] at h0
      simp only [onceAt, if_pos h0]
      split
      · simp
      · refine ih (fun j hj => ?_) pre hp'
        have := hg (j + 1) (by simpa using hj)
        rw [show i + 1 + j = i + (j + 1) from by omega]
        simpa using this

theorem sumP_pSpans (a c i : Nat) (hi : i ≤ pM a c) : sumP ((pSpans a c).take i) = pDone a c i := by
  induction i with
  | zero => simp [sumP, pDone_zero]
  | succ i ih =>
    have h1 := pSpans_get (a := a) (c := c) (i := i) (by omega)
    rw [List.take_add_one, h1]
    simp only [Option.toList_some]
    rw [sumP_snoc, ih (by omega), ← pDone_succ (by omega)]
    have := pFrom_lt_pTo (a := a) (c := c) (i := i) (by omega)
    simp only [pSpan]
    omega

theorem goodItems_I (a c : Int) : goodItems (pSpansI a c) (pItemsI a c) 0 := by
  intro j hj
  unfold pItemsI pSpansI at *
  split at hj
  · rename_i h
    simp only [h, if_true]
    rw [pItems_len] at hj
    rw [Nat.zero_add, pSpans_get hj, sumP_pSpans _ _ _ (by omega)]
    have : (pItems a.toNat c.toNat)[j]? = some (pItem a.toNat c.toNat j) := by simp [pItems, hj]
    have h2 : (pItems a.toNat c.toNat)[j]'(by rw [pItems_len]; exact hj) = pItem a.toNat c.toNat j := by
      have := List.getElem_of_getElem? this
      obtain ⟨_, h⟩ := this
      exact h
    rw [h2]
    simp [pItem]
  · simp at hj

theorem pSpansI_bound (a c : Int) : ∀ s ∈ pSpansI a c, s.lo ≤ 4 ∧ s.hi ≤ 4 := by
  intro s hs
  unfold pSpansI at hs
  split at hs
  · simp only [pSpans, List.mem_map, List.mem_range] at hs
    obtain ⟨i, _, rfl⟩ := hs
    have h1 := pFrom_lt a.toNat i
    have h2 := @pTo_le a.toNat c.toNat i
    simp only [pSpan]
    omega
  · cases hs

theorem sumP_bound {l : List PSpan} (h : ∀ s ∈ l, s.lo ≤ 4 ∧ s.hi ≤ 4) : -4 * (l.length : Int) ≤ sumP l ∧ sumP l ≤ 4 * l.length := by
  induction l with
  | nil => simp [sumP]
  | cons s l ih =>
    have h1 := h s (by simp)
    have h2 := ih (fun t ht => h t (by simp [ht]))
    simp only [sumP, List.length_cons]
    omega
end Go.Proofs.Ytgokaoajpidhnaa
