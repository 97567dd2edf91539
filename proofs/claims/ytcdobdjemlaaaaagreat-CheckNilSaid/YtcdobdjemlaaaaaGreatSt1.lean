/- A disk's blocks in its sectors, plainly. -/
import Derived.Test.YtcdobdjemlaaaaaGreatSt0
namespace Go.Proofs.YtcdobdjemlaaaaaGreat
open Go.RowKit Wire
set_option linter.unusedVariables false
set_option linter.unusedSimpArgs false

/-- A part of bytes: sector i of a block. -/
def sec (b : List UInt8) (i : Nat) : List UInt8 := (b.drop (i * 64)).take 64
/-- A block, in four sectors. -/
def rdB (img : List (List UInt8)) (k : Nat) : List UInt8 := (List.range 4).flatMap fun i => img.getD (k * 4 + i) []
/-- It is written up to sector n. -/
def wrBn (img : List (List UInt8)) (k : Nat) (b : List UInt8) : Nat → List (List UInt8)
  | 0 => img
  | n + 1 => (wrBn img k b n).set (k * 4 + n) (sec b n)
def wrB (img : List (List UInt8)) (k : Nat) (b : List UInt8) : List (List UInt8) := wrBn img k b 4
theorem wrBn_len (img : List (List UInt8)) (k : Nat) (b : List UInt8) : ∀ n, (wrBn img k b n).length = img.length
  | 0 => rfl
  | n + 1 => by rw [wrBn, List.length_set, wrBn_len]
theorem wrB_len (img : List (List UInt8)) (k : Nat) (b : List UInt8) : (wrB img k b).length = img.length := wrBn_len ..
theorem sec_len {b : List UInt8} {i : Nat} (h : b.length = 256) (hi : i < 4) : (sec b i).length = 64 := by unfold sec; rw [List.length_take, List.length_drop]; omega
/-- All sectors have 64 bytes. -/
def Secs (img : List (List UInt8)) : Prop := ∀ s ∈ img, s.length = 64
theorem wrBn_secs {img : List (List UInt8)} {b : List UInt8} (k : Nat) (h : Secs img) (hb : b.length = 256) : ∀ n, n ≤ 4 → Secs (wrBn img k b n)
  | 0, _ => h
  | n + 1, hn => fun s hs => by
    rw [wrBn] at hs
    rcases List.mem_or_eq_of_mem_set hs with hs | rfl
    · exact wrBn_secs k h hb n (by omega) s hs
    · exact sec_len hb (by omega)
theorem wrB_secs {img : List (List UInt8)} {b : List UInt8} (k : Nat) (h : Secs img) (hb : b.length = 256) : Secs (wrB img k b) := wrBn_secs k h hb 4 (by omega)
theorem rdB_len {img : List (List UInt8)} {k : Nat} (h : Secs img) (hk : k * 4 + 4 ≤ img.length) : (rdB img k).length = 256 := by
  have hg : ∀ i, i < 4 → (img.getD (k * 4 + i) []).length = 64 := fun i hi => by
    rw [List.getD_eq_getElem?_getD, List.getElem?_eq_getElem (by omega)]
    exact h _ (List.getElem_mem _)
  unfold rdB
  simp only [show List.range 4 = [0, 1, 2, 3] from rfl, List.flatMap_cons, List.flatMap_nil, List.length_append, List.length_nil, hg 0 (by omega), hg 1 (by omega), hg 2 (by omega), hg 3 (by omega)]
theorem wrBn_get (img : List (List UInt8)) (k : Nat) (b : List UInt8) (j : Nat) (hj : j < img.length) : ∀ n, (wrBn img k b n).getD j [] = if k * 4 ≤ j ∧ j < k * 4 + n then sec b (j - k * 4) else img.getD j []
  | 0 => by rw [if_neg (by omega)]; rfl
  | n + 1 => by
    rw [wrBn, List.getD_eq_getElem?_getD, List.getElem?_set]
    by_cases e : k * 4 + n = j
    · rw [if_pos e, if_pos (by rw [wrBn_len]; omega), if_pos (by omega)]
      simp only [Option.getD_some]
      congr 1
      omega
    · rw [if_neg e, ← List.getD_eq_getElem?_getD, wrBn_get img k b j hj n]
      by_cases h : k * 4 ≤ j ∧ j < k * 4 + n
      · rw [if_pos h, if_pos (by omega)]
      · rw [if_neg h, if_neg (by omega)]
theorem secs_all {b : List UInt8} (h : b.length = 256) : (List.range 4).flatMap (fun i => sec b i) = b := by
  simp only [show List.range 4 = [0, 1, 2, 3] from rfl, List.flatMap_cons, List.flatMap_nil, List.append_nil]
  unfold sec
  simp only [Nat.zero_mul, Nat.one_mul, List.drop_zero]
  have e3 : (b.drop (3 * 64)).take 64 = b.drop (3 * 64) := List.take_of_length_le (by rw [List.length_drop]; omega)
  have e2 : (b.drop (2 * 64)).take 64 ++ b.drop (3 * 64) = b.drop (2 * 64) := by
    have := List.take_append_drop 64 (b.drop (2 * 64))
    rwa [List.drop_drop] at this
  have e1 : (b.drop 64).take 64 ++ b.drop (2 * 64) = b.drop 64 := by
    have := List.take_append_drop 64 (b.drop 64)
    rwa [List.drop_drop] at this
  rw [e3, e2, e1, List.take_append_drop]
theorem rd_wr {img : List (List UInt8)} {b : List UInt8} {k : Nat} (hb : b.length = 256) (hk : k * 4 + 4 ≤ img.length) : rdB (wrB img k b) k = b := by
  conv => rhs; rw [← secs_all hb]
  unfold rdB wrB
  have e : ∀ i ∈ List.range 4, (wrBn img k b 4).getD (k * 4 + i) [] = sec b i := fun i hi => by
    have hi := List.mem_range.1 hi
    rw [wrBn_get img k b _ (by omega) 4, if_pos (by omega)]
    congr 1
    omega
  rw [List.flatMap_def, List.flatMap_def, List.map_congr_left e]
theorem rd_wr_other {img : List (List UInt8)} {b : List UInt8} {k j : Nat} (hj : j * 4 + 4 ≤ img.length) (hn : j ≠ k) : rdB (wrB img k b) j = rdB img j := by
  unfold rdB wrB
  have e : ∀ i ∈ List.range 4, (wrBn img k b 4).getD (j * 4 + i) [] = img.getD (j * 4 + i) [] := fun i hi => by
    have hi := List.mem_range.1 hi
    rw [wrBn_get img k b _ (by omega) 4, if_neg (by omega)]
  rw [List.flatMap_def, List.flatMap_def, List.map_congr_left e]
end Go.Proofs.YtcdobdjemlaaaaaGreat
