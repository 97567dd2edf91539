/- What clients ask: plain Lean (no program). -/
import Derived.Test.YtgkelbdgdhkeoaaWire0
namespace Go.Proofs.Ytgkelbdgdhkeoaa.Cmd
set_option linter.unusedVariables false
open Wire

/-- An operation. -/
structure Op0 where
  k : Int
  vol : Nat
  to : Nat
  size : Int
  pl : Int
  count : Int
  data : List UInt8
deriving DecidableEq

/-- Are two the same? -/
def opEq (a b : Op0) : Bool := decide (a = b)
theorem opEq_no {a b : Op0} (h : a ≠ b) : opEq a b = false := decide_eq_false h
theorem opEq_yes {a b : Op0} (h : a = b) : opEq a b = true := decide_eq_true h
theorem opEq_iff {a b : Op0} : opEq a b = true ↔ a = b := by unfold opEq; exact decide_eq_true_iff
/-- What is right of it in memory. -/
structure Op0.Ok (o : Op0) : Prop where
  k : -9223372036854775808 ≤ o.k ∧ o.k ≤ 9223372036854775807
  vol : o.vol < 18446744073709551616
  to : o.to < 18446744073709551616
  size : -9223372036854775808 ≤ o.size ∧ o.size ≤ 9223372036854775807
  pl : -9223372036854775808 ≤ o.pl ∧ o.pl ≤ 9223372036854775807
  count : -9223372036854775808 ≤ o.count ∧ o.count ≤ 9223372036854775807

/-- The letters of what a kind names. -/
def nm (k : Int) : List UInt8 :=
  if k = 1 ∨ k = 3 then [118, 115] else if k = 2 then [118] else if k = 4 then [118, 116] else if k = 5 then [118, 97, 100]
  else if k = 6 ∨ k = 7 ∨ k = 9 then [118, 97, 99] else []
theorem nm_no {k : Int} (h : k < 1 ∨ 10 ≤ k) : nm k = [] := by unfold nm; repeat rw [if_neg (by omega)]
theorem nm_len (k : Int) : (nm k).length ≤ 3 := by unfold nm; (repeat' split) <;> decide
theorem nm_low (k : Int) : ∀ c ∈ nm k, c.toNat < 128 := by unfold nm; (repeat' split) <;> decide

/-- Is what a letter stands for in its bounds? -/
def wIn (c : Int) (o : Op0) : Bool :=
  if c = 118 then decide (1 ≤ o.vol) && decide (o.vol < 4294967296)
  else if c = 116 then decide (1 ≤ o.to) && decide (o.to < 4294967296) && (o.to != o.vol)
  else if c = 115 then decide (0 ≤ o.size) && decide (o.size ≤ 256)
  else if c = 97 then decide (0 ≤ o.pl) && decide (o.pl ≤ 1048576)
  else if c = 99 then decide (1 ≤ o.count) && decide (o.count ≤ 1024)
  else decide (64 ≤ o.data.length) && decide (o.data.length % 64 = 0) && decide (o.data.length ≤ 2048)
/-- With what a letter stands for. -/
def setL (b : Op0) (c : Int) (o : Op0) : Op0 :=
  if c = 118 then { b with vol := o.vol } else if c = 116 then { b with to := o.to } else if c = 115 then { b with size := o.size }
  else if c = 97 then { b with pl := o.pl } else if c = 99 then { b with count := o.count } else { b with data := o.data }
def bare0 (o : Op0) : Op0 := ⟨o.k, 0, 0, 0, 0, 0, []⟩
def bare (o : Op0) (l : List UInt8) : Op0 := l.foldl (fun b c => setL b (c.toNat : Int) o) (bare0 o)
theorem bare_snoc (o : Op0) (l : List UInt8) (c : UInt8) : bare o (l ++ [c]) = setL (bare o l) (c.toNat : Int) o := by simp [bare]
/-- May an operation be? -/
def mayO (o : Op0) : Bool := (nm o.k).all (fun c => wIn (c.toNat : Int) o) && (decide (1 ≤ o.k) && decide (o.k ≤ 9)) && opEq o (bare o (nm o.k))

/-- The shape of what a kind names, and its values. -/
def shL (c : Int) : UInt8 := if c = 118 ∨ c = 116 ∨ c = 115 ∨ c = 97 ∨ c = 99 then 52 else 42
def toU (n : Int) : Nat := (n % 18446744073709551616).toNat
def vaL (c : Int) (o : Op0) : V :=
  if c = 118 then num o.vol else if c = 116 then num o.to else if c = 115 then num (toU o.size) else if c = 97 then num (toU o.pl) else if c = 99 then num (toU o.count) else blob o.data
def shS (l : List UInt8) : List UInt8 := l.map fun c => shL (c.toNat : Int)
def vals (o : Op0) (l : List UInt8) : List V := l.map fun c => vaL (c.toNat : Int) o
theorem vals_snoc (o : Op0) (l : List UInt8) (c : UInt8) : vals o (l ++ [c]) = vals o l ++ [vaL (c.toNat : Int) o] := by simp [vals]
theorem shS_snoc (l : List UInt8) (c : UInt8) : shS (l ++ [c]) = shS l ++ [shL (c.toNat : Int)] := by simp [shS]
/-- An operation's bytes; none: it may not be. -/
def packO (o : Op0) : Option (List UInt8) := if mayO o then pack (49 :: shS (nm o.k)) (num (toU o.k) :: vals o (nm o.k)) else none
end Go.Proofs.Ytgkelbdgdhkeoaa.Cmd
