/- Numbers' bytes, walked: wire.low, the reference's Low, fits, sum. -/
import Derived.Deep.LoopGhost
import Derived.Test.YtgkelbdgdhkeoaaChg
import Derived.Test.YtgkelbdgdhkeoaaWire3
namespace Go.Proofs.Ytgkelbdgdhkeoaa
open Go.RowKit
set_option linter.unusedVariables false
open Wire

theorem low_succ (n : Nat) : ∀ k, low n (k + 1) = low n k ++ [UInt8.ofNat (n / 256 ^ k % 256)] := by
  intro k
  induction k generalizing n with
  | zero => simp [low]
  | succ k ih =>
    rw [low, ih (n / 256), low]
    simp only [List.cons_append]
    rw [Nat.div_div_eq_div_mul, Nat.pow_succ, Nat.mul_comm 256]

set_option maxRecDepth 100000 in
set_option maxHeartbeats 3200000 in
theorem low_any {base : Nat} {w : World} {v : Value} {m : Nat} {xs : List UInt8} (ho : w.ownsRow base 5 1 v m (bV xs)) (hb : base ≤ w.heap.size) (n k : Nat) (hn : n < 18446744073709551616) (hk : k ≤ 8) (hm : m ≤ 100000000) :
    Calls Try.prog 154 #[v, .int .u64 (n : Int), .int .i64 (k : Int)] w fun e w' => ∃ v', e = .returned (.tuple #[v', .bool (n / 256 ^ k == 0)]) ∧ w'.ownsRow base 5 1 v' (m + k) (bV (xs ++ low n k)) ∧ Chg (ob v) w w' (ob v') := by
  have HO := Lib.hid ho
  have HB := Lib.hid hb
  clear ho
  go_enter Try.func154, Try.ntmps154
  go_wp2_with fail
  go_loopg [0, 1, 9] k (fun g u x i wr => ∃ (j : Nat) (v' : Value) (y : Nat), j ≤ k ∧ g = k - j ∧ u = v' ∧ x = .int .u64 (y : Int) ∧ y = n / 256 ^ j ∧ i = .int .i64 (j : Int) ∧ wr.ownsRow base 5 1 v' (m + j) (bV (xs ++ low n j)) ∧ Chg (ob v) w wr (ob v'))
  case atStart => exact ⟨0, v, n, by omega, by omega, rfl, rfl, by simp, rfl, by simpa [low] using HO.out, Chg.refl _ _⟩
  case round =>
    obtain ⟨j, v', y, hj, hg, rfl, rfl, hy, rfl, ho, hc⟩ := hrel
    have HG := Lib.hid hg
    have hy0 := Lib.hid hy
    have HC := Lib.hid hc
    have hbr : base ≤ wr.heap.size := Nat.le_trans HB.out hc.size
    have hyn : y < 18446744073709551616 := by rw [hy]; exact Nat.lt_of_le_of_lt (Nat.div_le_self _ _) hn
    clear hg hy hc
    by_cases hlt : j < k
    · have hs8 : n / 256 ^ (j + 1) = y / 256 := by rw [hy0.out, Nat.pow_succ, Nat.div_div_eq_div_mul]
      have HS8 := Lib.hid hs8
      have HL := Lib.hid (low_succ n j)
      clear hs8
      go_wp2_with (at_builtin; go_must (refine wpList_app rfl _ _ 24 rfl base 5 _ 1 1 Try.underlying24 infoByte rfl (by decide) (by decide) _ (m + j) _ rfl ho rfl rfl (by simp [Value.oneCell']) (by omega) hbr ?_); intro v1 w1 ho1 hb1 hg1 hs1 hn1)
      have HC1 := Lib.hid (HC.out.trans (Chg.of_grown hg1 hs1))
      have HO1 := Lib.hid ho1
      clear ho1 hb1 hg1 hs1 hn1
      go_roundg (k - (j + 1))
      case rel =>
        refine ⟨j + 1, v1, y / 256, by omega, rfl, rfl, ?_, HS8.out.symm, by go_num, ?_, HC1.out⟩
        · go_num
        · have := HO1.out
          rw [← Nat.add_assoc, HL.out, ← List.append_assoc, bV_app, ← hy0.out]
          simpa [bV] using this
      case measure => have := HG.out; omega
    · obtain rfl : j = k := by omega
      by_cases hz : y = 0
      · have hz2 : (y == 0) = true := by simp [hz]
        subst hz
        go_wp2_with fail
        go_ret2
        exact ⟨_, by rw [← hy0.out]; rfl, ho, HC.out⟩
      · have hz2 : ((y : Int) == 0) = false := by simp; omega
        have hz3 : (y == 0) = false := by simp [hz]
        go_wp2_with fail
        go_ret2
        exact ⟨_, by rw [← hy0.out, hz3]; rfl, ho, HC.out⟩
end Go.Proofs.Ytgkelbdgdhkeoaa
