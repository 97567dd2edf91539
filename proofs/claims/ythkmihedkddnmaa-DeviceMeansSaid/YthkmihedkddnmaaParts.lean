/- Plain: the parts of a row of sectors, in closed form: part i lies in block a/4 + i. -/
import Derived.WalkKit
namespace Go.Proofs.Ythkmihedkddnmaa
open Go.RowKit
set_option linter.unusedVariables false

/-- How many parts: a row of c sectors from sector a on (c ≥ 1). -/
def pM (a c : Nat) : Nat := if c = 0 then 0 else (a + c + 3) / 4 - a / 4
def pBlk (a i : Nat) : Nat := a / 4 + i
def pFrom (a i : Nat) : Nat := a - 4 * (a / 4 + i)
def pTo (a c i : Nat) : Nat := min 4 (a + c - 4 * (a / 4 + i))
/-- How many sectors stand ahead of part i. -/
def pDone (a c i : Nat) : Nat := min c (4 * (a / 4 + i) - a)

/-- A part. -/
structure PSpan where
  blk : Nat
  lo : Nat
  hi : Nat
deriving DecidableEq

def pSpan (a c i : Nat) : PSpan := ⟨pBlk a i, pFrom a i, pTo a c i⟩
def pItem (a c i : Nat) : Nat × PSpan := (pDone a c i, pSpan a c i)
/-- The parts, each with how many sectors stand ahead of it. -/
def pItems (a c : Nat) : List (Nat × PSpan) := (List.range (pM a c)).map (pItem a c)
def pSpans (a c : Nat) : List PSpan := (List.range (pM a c)).map (pSpan a c)

theorem pDone_lt {a c i : Nat} (hc : 1 ≤ c) : pDone a c i < c ↔ i < pM a c := by
  unfold pDone pM; split <;> omega
theorem pAt {a c i : Nat} (hi : i < pM a c) : a + pDone a c i = 4 * (a / 4 + i) + pFrom a i := by
  unfold pDone pFrom pM at *; split at hi <;> omega
theorem pFrom_lt (a i : Nat) : pFrom a i < 4 := by unfold pFrom; omega
theorem pTo_le {a c i : Nat} : pTo a c i ≤ 4 := by unfold pTo; omega
theorem pFrom_lt_pTo {a c i : Nat} (hi : i < pM a c) : pFrom a i < pTo a c i := by unfold pFrom pTo pM at *; split at hi <;> omega
theorem pDone_succ {a c i : Nat} (hi : i < pM a c) : pDone a c i + (pTo a c i - pFrom a i) = pDone a c (i + 1) := by
  unfold pDone pTo pFrom pM at *; split at hi <;> omega
theorem pDone_zero (a c : Nat) : pDone a c 0 = 0 := by unfold pDone; omega
theorem pDone_le {a c i : Nat} : pDone a c i ≤ c := by unfold pDone; omega
theorem pM_le {a c : Nat} : pM a c ≤ c := by unfold pM; split <;> omega
theorem pM_pos {a c : Nat} (h : 1 ≤ c) : 1 ≤ pM a c := by unfold pM; split <;> omega

theorem pItems_take_succ {a c i : Nat} (hi : i < pM a c) : (pItems a c).take i ++ [pItem a c i] = (pItems a c).take (i + 1) := by
  have : (pItems a c)[i]? = some (pItem a c i) := by simp [pItems, hi]
  rw [List.take_add_one, this]; rfl
theorem pItems_len (a c : Nat) : (pItems a c).length = pM a c := by simp [pItems]
end Go.Proofs.Ythkmihedkddnmaa
