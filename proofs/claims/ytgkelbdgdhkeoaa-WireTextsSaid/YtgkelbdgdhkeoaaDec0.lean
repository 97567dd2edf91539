/- The number of a text: plain Lean (no program). -/
import Derived.Test.YtgkelbdgdhkeoaaBase
namespace Go.Proofs.Ytgkelbdgdhkeoaa.Dec
set_option linter.unusedVariables false

def isD (c : UInt8) : Bool := decide (48 ≤ c.toNat) && decide (c.toNat ≤ 57)
def decF : Nat → List UInt8 → Nat
  | n, [] => n
  | n, c :: l => decF (10 * n + (c.toNat - 48)) l
def decV (l : List UInt8) : Nat := decF 0 l
theorem decF_snoc (l : List UInt8) (c : UInt8) : ∀ n, decF n (l ++ [c]) = 10 * decF n l + (c.toNat - 48) := by
  induction l with
  | nil => intro n; rfl
  | cons x l ih => intro n; exact ih _
theorem decF_app (l r : List UInt8) : ∀ n, decF n (l ++ r) = decF (decF n l) r := by
  induction l with
  | nil => intro n; rfl
  | cons x l ih => intro n; exact ih _
theorem decF_ge (l : List UInt8) : ∀ n, n * 10 ^ l.length ≤ decF n l := by
  induction l with
  | nil => intro n; show n * 10 ^ 0 ≤ n; omega
  | cons x l ih =>
    intro n
    have e : n * 10 ^ (l.length + 1) = (10 * n) * 10 ^ l.length := by rw [Nat.pow_succ, Nat.mul_comm (10 ^ l.length) 10, ← Nat.mul_assoc, Nat.mul_comm n 10]
    have h1 : (10 * n) * 10 ^ l.length ≤ (10 * n + (x.toNat - 48)) * 10 ^ l.length := Nat.mul_le_mul_right _ (Nat.le_add_right _ _)
    have h2 := ih (10 * n + (x.toNat - 48))
    rw [List.length_cons, e]
    exact Nat.le_trans h1 h2
theorem decF_le (l : List UInt8) (n : Nat) : n ≤ decF n l := by
  have h := decF_ge l n
  have h2 : n * 1 ≤ n * 10 ^ l.length := Nat.mul_le_mul_left _ (Nat.pow_pos (by omega))
  omega

def dec (s : List UInt8) (most : Nat) : Option Nat := if s ≠ [] ∧ ¬ (1 < s.length ∧ s.headD 0 = 48) ∧ s.all isD = true ∧ decV s ≤ most then some (decV s) else none
theorem dec_empty (most : Nat) : dec [] most = none := by unfold dec; rw [if_neg (fun h => h.1 rfl)]
theorem dec_zero {s : List UInt8} {most : Nat} (h1 : 1 < s.length) (h2 : s.headD 0 = 48) : dec s most = none := by unfold dec; rw [if_neg (fun h => h.2.1 ⟨h1, h2⟩)]
theorem dec_digit {s : List UInt8} {most k : Nat} {c : UInt8} (h : s[k]? = some c) (hc : isD c = false) : dec s most = none := by
  unfold dec
  rw [if_neg]
  rintro ⟨_, _, ha, _⟩
  have := List.all_eq_true.1 ha c (List.mem_of_getElem? h)
  rw [hc] at this; cases this
theorem dec_much {s : List UInt8} {most : Nat} (k : Nat) (h : most < decV (s.take k)) : dec s most = none := by
  unfold dec
  rw [if_neg]
  rintro ⟨_, _, _, hm⟩
  have : decV s = decF (decV (s.take k)) (s.drop k) := by
    unfold decV
    rw [← decF_app, List.take_append_drop]
  have := decF_le (s.drop k) (decV (s.take k))
  omega
theorem dec_long {s : List UInt8} {most : Nat} (hm : most < 2 ^ 64) (h1 : 20 < s.length) : dec s most = none := by
  unfold dec
  rw [if_neg]
  rintro ⟨_, hz, ha, hm2⟩
  cases s with
  | nil => simp at h1
  | cons c r =>
    have hd := List.all_eq_true.1 ha c (by simp)
    have h48 : c ≠ 48 := fun e => hz ⟨by omega, by simpa using e⟩
    unfold isD at hd
    simp only [Bool.and_eq_true, decide_eq_true_eq] at hd
    have hne : c.toNat ≠ 48 := fun e => h48 (UInt8.toNat_inj.1 (by rw [e]; rfl))
    have h2 := decF_ge r (10 * 0 + (c.toNat - 48))
    have h3 : decV (c :: r) = decF (10 * 0 + (c.toNat - 48)) r := rfl
    have h4 : 10 ^ 20 ≤ 10 ^ r.length := Nat.pow_le_pow_right (by omega) (by simp at h1; omega)
    have h5 : 10 ^ r.length ≤ (10 * 0 + (c.toNat - 48)) * 10 ^ r.length := Nat.le_mul_of_pos_left _ (by omega)
    omega
theorem dec_some {s : List UInt8} {most : Nat} (h0 : s ≠ []) (h1 : ¬ (1 < s.length ∧ s.headD 0 = 48)) (h2 : s.all isD = true) (h3 : decV s ≤ most) : dec s most = some (decV s) := by
  unfold dec; rw [if_pos ⟨h0, h1, h2, h3⟩]
theorem take_snoc' {s : List UInt8} {k : Nat} {c : UInt8} (h : s[k]? = some c) : s.take (k + 1) = s.take k ++ [c] := by rw [List.take_add_one, h]; rfl
theorem decV_snoc (l : List UInt8) (c : UInt8) : decV (l ++ [c]) = 10 * decV l + (c.toNat - 48) := decF_snoc l c 0
theorem all_snoc {l : List UInt8} {c : UInt8} (h : l.all isD = true) (hc : isD c = true) : (l ++ [c]).all isD = true := by simp [List.all_append, h, hc]
end Go.Proofs.Ytgkelbdgdhkeoaa.Dec
