/- What clients ask, by the reference's table: plain Lean (no program). -/
import Derived.Test.YtgkelbdgdhkeoaaCmd0
namespace Go.Proofs.Ytgkelbdgdhkeoaa.Cmd
set_option linter.unusedVariables false
set_option linter.unusedSimpArgs false
open Wire

/-! the reference's -/
def inP (b : Bool) (lo n hi : Int) : Bool := if b then decide (lo ≤ n) && decide (n ≤ hi) else decide (n = 0)
def hasK (k : Int) (c : UInt8) : Bool := (nm k).contains c
def b0 (o : Op0) : Bool := decide (1 ≤ o.k) && decide (o.k ≤ 9) && decide (o.vol ≤ 4294967295) && decide (o.to ≤ 4294967295)
def b1 (o : Op0) : Bool := inP (hasK o.k 118) 1 o.vol 4294967295
def b2 (o : Op0) : Bool := inP (hasK o.k 116) 1 o.to 4294967295
def b3 (o : Op0) : Bool := !(hasK o.k 116 && (o.to == o.vol))
def b4 (o : Op0) : Bool := inP (hasK o.k 115) 0 o.size 256
def b5 (o : Op0) : Bool := inP (hasK o.k 97) 0 o.pl 1048576
def b6 (o : Op0) : Bool := inP (hasK o.k 99) 1 o.count 1024
def b7 (o : Op0) : Bool := o.data.length % 64 == 0
def b8 (o : Op0) : Bool := inP (hasK o.k 100) 1 ((o.data.length : Int) / 64) 32
def mayR (o : Op0) : Bool := b0 o && (b1 o && (b2 o && (b3 o && (b4 o && (b5 o && (b6 o && (b7 o && b8 o)))))))

theorem mayR_mayO (o : Op0) : mayR o = mayO o := by
  obtain ⟨k, v, t, s, p, c, d⟩ := o
  by_cases hk : 1 ≤ k ∧ k ≤ 9
  · have hc : k = 1 ∨ k = 2 ∨ k = 3 ∨ k = 4 ∨ k = 5 ∨ k = 6 ∨ k = 7 ∨ k = 8 ∨ k = 9 := by omega
    have hd : d = [] ↔ d.length = 0 := by cases d <;> simp
    rcases hc with rfl | rfl | rfl | rfl | rfl | rfl | rfl | rfl | rfl
    all_goals
      rw [Bool.eq_iff_iff]
      unfold mayR mayO b0 b1 b2 b3 b4 b5 b6 b7 b8
      simp only [Bool.and_eq_true, opEq_iff]
      simp (config := { decide := true }) only [hasK, nm, inP, bare, bare0, setL, wIn, List.foldl, List.all, List.contains, List.elem, Op0.mk.injEq, if_true, if_false]
      simp only [Bool.and_eq_true, decide_eq_true_eq, bne_iff_ne, beq_iff_eq, ne_eq, Bool.not_eq_true', Bool.and_eq_false_iff, Bool.true_and, Bool.false_and, Bool.not_false, Bool.and_true, true_and, and_true, beq_eq_false_iff_ne, hd]
      try simp only [show ((116 : UInt8) == 118) = false from rfl, show ((116 : UInt8) == 116) = true from rfl, Bool.true_eq_false, false_or]
      omega
  · have h1 : mayR ⟨k, v, t, s, p, c, d⟩ = false := by
      unfold mayR b0
      have : (decide (1 ≤ k) && decide (k ≤ 9)) = false := by
        rw [Bool.and_eq_false_iff]
        by_cases h : 1 ≤ k
        · right; rw [decide_eq_false]; intro h2; exact hk ⟨h, h2⟩
        · left; exact decide_eq_false h
      simp only [this, Bool.false_and]
    have h2 : mayO ⟨k, v, t, s, p, c, d⟩ = false := by
      unfold mayO
      have : (decide (1 ≤ k) && decide (k ≤ 9)) = false := by
        rw [Bool.and_eq_false_iff]
        by_cases h : 1 ≤ k
        · right; rw [decide_eq_false]; intro h2; exact hk ⟨h, h2⟩
        · left; exact decide_eq_false h
      simp only [this, Bool.false_and, Bool.and_false]
    rw [h1, h2]
end Go.Proofs.Ytgkelbdgdhkeoaa.Cmd
