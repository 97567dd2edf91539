/- Values as bytes, by a shape: plain Lean (no program). -/
import Derived.Test.YtgkelbdgdhkeoaaBase
namespace Go.Proofs.Ytgkelbdgdhkeoaa.Wire
set_option linter.unusedVariables false

/-- How many bytes a letter's number has, or what stands ahead of its bytes; 0: it is no letter. -/
def widI (r : Int) : Nat := if r = 49 then 1 else if r = 50 then 2 else if r = 52 then 4 else if r = 56 then 8 else if r = 63 then 1 else if r = 42 then 4 else if r = 35 then 256 else 0
def wid (c : UInt8) : Nat := widI (c.toNat : Int)
theorem widI_le (r : Int) : widI r ≤ 256 := by unfold widI; (repeat' split) <;> omega
theorem widI_big {r : Int} (h : 128 ≤ r) : widI r = 0 := by unfold widI; repeat rw [if_neg (by omega)]
theorem wid_small {c : UInt8} (h : wid c ≠ 0) : c.toNat < 128 := by
  rcases Nat.lt_or_ge c.toNat 128 with h1 | h1
  · exact h1
  · exact absurd (widI_big (r := (c.toNat : Int)) (by omega)) h
def may (s : List UInt8) : Bool := s.all fun c => wid c != 0
def sumW (s : List UInt8) : Nat := (s.map wid).sum
def least (s : List UInt8) : Nat := if may s then sumW s else 0
theorem may_cons (c : UInt8) (s : List UInt8) : may (c :: s) = (wid c != 0 && may s) := by simp [may]
theorem sumW_cons (c : UInt8) (s : List UInt8) : sumW (c :: s) = wid c + sumW s := by simp [sumW]
theorem sumW_le (s : List UInt8) : sumW s ≤ 256 * s.length := by
  induction s with
  | nil => simp [sumW]
  | cons c s ih => rw [sumW_cons, List.length_cons]; have := widI_le (c.toNat : Int); unfold wid; omega

/-- A number's bytes, the lowest first. -/
def low : Nat → Nat → List UInt8
  | _, 0 => []
  | n, k + 1 => UInt8.ofNat (n % 256) :: low (n / 256) k
theorem low_len (k : Nat) : ∀ n, (low n k).length = k := by
  induction k with
  | zero => intro n; rfl
  | succ k ih => intro n; simp [low, ih]
/-- The number of bytes, the lowest first. -/
def sum : List UInt8 → Nat
  | [] => 0
  | b :: l => b.toNat + 256 * sum l
theorem sum_low (k : Nat) : ∀ n, n < 256 ^ k → sum (low n k) = n := by
  induction k with
  | zero => intro n h; simp at h; simp [low, sum, h]
  | succ k ih =>
    intro n h
    rw [low, sum, ih (n / 256) (by rw [Nat.div_lt_iff_lt_mul (by omega)]; rw [Nat.pow_succ] at h; exact h)]
    have h1 : (UInt8.ofNat (n % 256)).toNat = n % 256 := by simp
    rw [h1]
    omega
theorem sum_lt (l : List UInt8) : sum l < 256 ^ l.length := by
  induction l with
  | nil => simp [sum]
  | cons b l ih =>
    rw [sum, List.length_cons, Nat.pow_succ]
    have := b.toNat_lt
    omega
theorem low_sum (l : List UInt8) : low (sum l) l.length = l := by
  induction l with
  | nil => rfl
  | cons b l ih =>
    have hb := b.toNat_lt
    rw [List.length_cons, low, sum]
    have h1 : (b.toNat + 256 * sum l) % 256 = b.toNat := by omega
    have h2 : (b.toNat + 256 * sum l) / 256 = sum l := by omega
    rw [h1, h2, ih]
    congr 1
    exact UInt8.ofNat_toNat
theorem sum_append (a b : List UInt8) : sum (a ++ b) = sum a + 256 ^ a.length * sum b := by
  induction a with
  | nil => simp [sum]
  | cons x a ih =>
    simp only [List.cons_append, sum, ih, List.length_cons, Nat.pow_succ, Nat.mul_add]
    rw [Nat.add_assoc]
    congr 2
    rw [← Nat.mul_assoc, Nat.mul_comm 256 (256 ^ a.length)]

/-- A value: its letter (8: a number; ?: a flag; *: bytes; #: a block; any other: of another type). -/
structure V where
  letter : UInt8
  n : Nat
  yes : Bool
  b : List UInt8
  x : List UInt8
def num (n : Nat) : V := ⟨56, n, false, [], List.replicate 256 0⟩
def flag (y : Bool) : V := ⟨63, 0, y, [], List.replicate 256 0⟩
def blob (l : List UInt8) : V := ⟨42, 0, false, l, List.replicate 256 0⟩
def blk (l : List UInt8) : V := ⟨35, 0, false, [], l⟩
/-- What is right of a value in memory. -/
structure V.Ok (v : V) : Prop where
  n : v.n < 2 ^ 64
  x : v.x.length = 256

def isNum (c : UInt8) : Bool := c == 49 || c == 50 || c == 52 || c == 56
/-- A value's bytes; none: it is not its letter's, or has no room. -/
def lay (c : UInt8) (v : V) : Option (List UInt8) :=
  if v.letter = 56 then (if isNum c = true ∧ v.n < 256 ^ wid c then some (low v.n (wid c)) else none)
  else if v.letter = 63 then (if c = 63 then some [if v.yes then 1 else 0] else none)
  else if v.letter = 42 then (if c = 42 ∧ v.b.length ≤ 16777216 then some (low v.b.length 4 ++ v.b) else none)
  else if v.letter = 35 then (if c = 35 then some v.x else none)
  else none
/-- Values' bytes; none: refused. -/
def pack : List UInt8 → List V → Option (List UInt8)
  | [], [] => some []
  | c :: s, v :: l => (lay c v).bind fun a => (pack s l).map (a ++ ·)
  | _, _ => none
/-- A letter's value off the bytes, and how many it took. -/
def lift (c : UInt8) (b : List UInt8) : Option (V × Nat) :=
  if b.length < wid c then none
  else if c = 63 then (if 1 < (b.headD 0).toNat then none else some (flag (b.headD 0 == 1), 1))
  else if c = 42 then (if 16777216 < sum (b.take 4) ∨ b.length - 4 < sum (b.take 4) then none else some (blob ((b.drop 4).take (sum (b.take 4))), 4 + sum (b.take 4)))
  else if c = 35 then some (blk (b.take 256), 256)
  else some (num (sum (b.take (wid c))), wid c)
/-- The values of bytes by a shape (whose letters are letters), and how many bytes they took. -/
def unpack : List UInt8 → List UInt8 → Option (List V × Nat)
  | [], _ => some ([], 0)
  | c :: s, b => (lift c b).bind fun (v, k) => (unpack s (b.drop k)).map fun (l, m) => (v :: l, k + m)
end Go.Proofs.Ytgkelbdgdhkeoaa.Wire
