/- Hex and its bytes, and numbers' texts: plain Lean (no program). -/
import Derived.Test.YtgkelbdgdhkeoaaBase
namespace Go.Proofs.Ytgkelbdgdhkeoaa.Hex
set_option linter.unusedVariables false

def hexs : ByteArray := ⟨#[48, 49, 50, 51, 52, 53, 54, 55, 56, 57, 97, 98, 99, 100, 101, 102]⟩
/-- A digit's letter. -/
def hx (n : Nat) : UInt8 := if n < 10 then UInt8.ofNat (48 + n) else UInt8.ofNat (87 + n)
def hexOf (l : List UInt8) : List UInt8 := l.flatMap fun b => [hx (b.toNat / 16), hx (b.toNat % 16)]
theorem hexs_at : ∀ (n : Nat) (h : n < 16), hexs[n]'(by show n < 16; exact h) = hx n := by decide
theorem hexOf_len (l : List UInt8) : (hexOf l).length = 2 * l.length := by
  induction l with
  | nil => rfl
  | cons b l ih => simp only [hexOf, List.flatMap_cons, List.length_append, List.length_cons, List.length_nil] at *; omega
theorem hexOf_snoc (l : List UInt8) (b : UInt8) : hexOf (l ++ [b]) = hexOf l ++ [hx (b.toNat / 16), hx (b.toNat % 16)] := by simp [hexOf]

/-- A letter's digit; 16: it is none. -/
def dg (c : UInt8) : Nat := if 48 ≤ c.toNat ∧ c.toNat ≤ 57 then c.toNat - 48 else if 97 ≤ c.toNat ∧ c.toNat ≤ 102 then c.toNat - 87 else 16
/-- A rune's digit; -1: it is none. -/
def dgI (r : Int) : Int := if 48 ≤ r ∧ r ≤ 57 then r - 48 else if 97 ≤ r ∧ r ≤ 102 then r - 87 else -1
theorem dgI_bd (r : Int) : -1 ≤ dgI r ∧ dgI r ≤ 15 := by unfold dgI; split; omega; split <;> omega
theorem dg_le (c : UInt8) : dg c ≤ 16 := by unfold dg; split; omega; split <;> omega
theorem dgI_byte (c : UInt8) : dgI (c.toNat : Int) = if dg c ≤ 15 then (dg c : Int) else -1 := by
  unfold dgI dg
  by_cases h1 : 48 ≤ c.toNat ∧ c.toNat ≤ 57
  · rw [if_pos h1, if_pos (by omega), if_pos (by omega)]; omega
  · rw [if_neg h1, if_neg (by omega)]
    by_cases h2 : 97 ≤ c.toNat ∧ c.toNat ≤ 102
    · rw [if_pos h2, if_pos (by omega), if_pos (by omega)]; omega
    · rw [if_neg h2, if_neg (by omega), if_neg (by omega)]
theorem dgI_far {r : Int} (h : 128 ≤ r) : dgI r = -1 := by unfold dgI; rw [if_neg (by omega), if_neg (by omega)]

def unhex : List UInt8 → Option (List UInt8)
  | [] => some []
  | [_] => none
  | x :: y :: s => if dg x ≤ 15 ∧ dg y ≤ 15 then (unhex s).map (UInt8.ofNat (16 * dg x + dg y) :: ·) else none
/-- With a first digit ahead. -/
def unhexH (d : Nat) : List UInt8 → Option (List UInt8)
  | [] => none
  | y :: s => if dg y ≤ 15 then (unhex s).map (UInt8.ofNat (16 * d + dg y) :: ·) else none
theorem unhex_first {x : UInt8} {s : List UInt8} (h : dg x ≤ 15) : unhex (x :: s) = unhexH (dg x) s := by
  cases s with
  | nil => rfl
  | cons y s => simp [unhex, unhexH, h]
theorem unhex_bad {x : UInt8} {s : List UInt8} (h : ¬ dg x ≤ 15) : unhex (x :: s) = none := by
  cases s with
  | nil => rfl
  | cons y s => simp [unhex, h]
theorem unhex_odd : ∀ (s : List UInt8), s.length % 2 = 1 → unhex s = none
  | [], h => by simp at h
  | [_], _ => rfl
  | x :: y :: s, h => by
    have := unhex_odd s (by simp at h; omega)
    simp [unhex, this]
theorem unhex_len : ∀ (s l : List UInt8), unhex s = some l → s.length = 2 * l.length
  | [], l, h => by simp [unhex] at h; subst h; rfl
  | [_], l, h => by simp [unhex] at h
  | x :: y :: s, l, h => by
    rw [unhex] at h
    split at h
    · cases hu : unhex s with
      | none => rw [hu] at h; cases h
      | some m =>
        rw [hu] at h
        simp at h
        subst h
        have := unhex_len s m hu
        simp; omega
    · cases h
end Go.Proofs.Ytgkelbdgdhkeoaa.Hex
