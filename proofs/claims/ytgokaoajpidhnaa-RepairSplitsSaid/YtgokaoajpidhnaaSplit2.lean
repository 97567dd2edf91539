/- The reference's Split (keys dealt out one by one), walked. -/
import Derived.Test.YtgokaoajpidhnaaSplit
namespace Go.Proofs.Ytgokaoajpidhnaa
open Go.RowKit

theorem splitL_get (n k : Int) (m j : Nat) (h : j < m) : (splitL n k m)[j]? = some (n / k + if (j : Int) < n % k then 1 else 0) := by
  simp [splitL, h]

theorem splitL_deal (t k : Nat) (hk : 0 < k) :
    (splitL t k k).set (t % k) ((t : Int) / k + 1) = splitL ((t : Int) + 1) k k := by
  apply List.ext_getElem?
  intro j
  rw [List.getElem?_set]
  by_cases hj : j < k
  · have hmod : t % k < k := Nat.mod_lt _ hk
    have e1 : (splitL t k k).length = k := splitL_len _ _ _
    rw [splitL_get _ _ _ _ hj, splitL_get _ _ _ _ hj]
    have c1 : ((t : Int) + 1) = ((t + 1 : Nat) : Int) := by omega
    rw [c1, ← Int.natCast_ediv, ← Int.natCast_emod, ← Int.natCast_ediv, ← Int.natCast_emod]
    have hd := Nat.div_add_mod t k
    have hsucc : ((t + 1) / k = t / k ∧ (t + 1) % k = t % k + 1) ∨ ((t + 1) / k = t / k + 1 ∧ (t + 1) % k = 0 ∧ t % k = k - 1) := by
      by_cases hlast : t % k + 1 = k
      · right
        have : t + 1 = k * (t / k + 1) := by rw [Nat.mul_add]; omega
        refine ⟨?_, ?_, by omega⟩
        · rw [this, Nat.mul_div_cancel_left _ hk]
        · rw [this, Nat.mul_mod_right]
      · left
        have : t + 1 = (t % k + 1) + k * (t / k) := by omega
        constructor
        · rw [this, Nat.add_mul_div_left _ _ hk, Nat.div_eq_of_lt (by omega)]; omega
        · rw [this, Nat.add_mul_mod_self_left, Nat.mod_eq_of_lt (by omega)]
    by_cases he : t % k = j
    · simp only [he, if_true, e1, hj]
      rcases hsucc with ⟨a, b⟩ | ⟨a, b, c⟩
      · rw [a, b]; simp; omega
      · rw [a, b]; simp; omega
    · simp only [he, if_false]
      rcases hsucc with ⟨a, b⟩ | ⟨a, b, c⟩
      · rw [a, b]; congr 2; simp; omega
      · rw [a, b, c]; simp; omega
  · rw [List.getElem?_eq_none (by rw [splitL_len]; omega), List.getElem?_eq_none (by rw [splitL_len]; omega)]
    split
    · split
      · rename_i h1 h2; rw [splitL_len] at h2; omega
      · rfl
    · rfl

theorem splitL_zero (k : Int) (m : Nat) : splitL 0 k m = List.replicate m 0 := by
  unfold splitL
  apply List.ext_getElem?
  intro j
  by_cases hj : j < m
  · simp [hj]
  · simp [hj]

set_option maxRecDepth 100000 in
set_option maxHeartbeats 1000000 in
theorem refSplit_any (n : Nat) (w : World) (h2 : n ≤ 10000000000) :
    Calls Try.prog 19 #[.int .i64 n] w fun e w' => ∃ v, e = .returned v ∧
      w'.ownsRow w.heap.size 3 1 v ((n + 5) / 6) ((splitL n ((n + 5) / 6 : Nat) ((n + 5) / 6)).map (Value.int .i64)) ∧ Below w.heap.size w w' := by
  go_enter Try.func19, Try.ntmps19
  go_wp2
  go_loop [3] (fun k => ∃ j : Nat, j ≤ (n + 5) / 6 ∧ k = .int .i64 j) (fun k => (n + 5) / 6 - (intOf k).toNat)
  case atStart => exact ⟨0, by omega, rfl⟩
  case round =>
    obtain ⟨k, hk, rfl⟩ := hrel
    by_cases hlt : 6 * k < n
    · go_wp2
      go_round
      case rel => exact ⟨k + 1, by omega, by go_num⟩
      case measure => simp [intOf]; omega
    · have HK : Hid (k = (n + 5) / 6) := Lib.hid (by omega)
      go_wp2_with (at_make; go_must (refine wpList_mk rfl _ _ 23 rfl w.heap.size 3 (.int .i64 0) 1 8 Try.underlying23 infoInt (by decide) _ _ _ _ k rfl rfl rfl rfl (by omega) (Nat.le_refl _) ?_); intro w1 ho1 hb1)
      have ho2 : w1.ownsRow w.heap.size 3 1 (.slice (some ⟨w.heap.size, 0, none⟩) k k) k ((splitL 0 k k).map (Value.int .i64)) := by
        rw [splitL_zero]
        simpa [Value.cells, toList_madeCells_one] using ho1
      clear ho1
      go_loopw [5] (fun i wr => ∃ t : Nat, t ≤ n ∧ i = .int .i64 t ∧ wr.ownsRow w.heap.size 3 1 (.slice (some ⟨w.heap.size, 0, none⟩) k k) k ((splitL t k k).map (Value.int .i64)) ∧ Below w.heap.size w wr)
        (fun i _ => n - (intOf i).toNat)
      case atStart => exact ⟨0, by omega, rfl, ho2, hb1⟩
      case round =>
        obtain ⟨t, ht, rfl, hown, hbel⟩ := hrel
        by_cases hlt2 : t < n
        · have hmod : t % k < k := Nat.mod_lt _ (by omega)
          have hcell := hown.cellAt (t % k) (by omega)
          have hfz := hown.frozenAt (t % k)
          have hx : ((splitL t k k).map (Value.int .i64))[t % k]? = some (.int .i64 ((t : Int) / k)) := by
            rw [List.getElem?_map, splitL_get _ _ _ _ hmod]
            simp
          rw [hx] at hcell
          have hst := hown.stored (t % k) (.int .i64 ((t : Int) / k + 1))
          have hdeal := splitL_deal t k (by omega)
          have hq1 : (t : Int) / k ≤ t := Int.ediv_le_self _ (by omega)
          have hq2 : 0 ≤ (t : Int) / k := Int.ediv_nonneg (by omega) (by omega)
          have HD := Lib.hid hdeal
          have HS := Lib.hid hst
          have hmz : ((t : Int) % k).toNat = t % k := by omega
          have hm1 : 0 ≤ (t : Int) % k := by omega
          have hm2 : (t : Int) % k < k := by omega
          clear hst hdeal hx ho2
          go_wp2
          go_roundw
          case rel =>
            obtain ⟨hs1, hs2⟩ := HS.out
            refine ⟨t + 1, by omega, by go_num, ?_, hbel.setCell (p := ⟨w.heap.size, t % k, none⟩) (Nat.le_refl _) _⟩
            have hc : ((t + 1 : Nat) : Int) = (t : Int) + 1 := by omega
            rw [hc, ← HD.out, List.map_set]
            exact hs1
          case measure => simp [intOf]; omega
        · obtain rfl : t = n := by omega
          go_wp2
          go_ret
          refine ⟨_, rfl, ?_, hbel⟩
          rw [← HK.out]
          exact hown
end Go.Proofs.Ytgokaoajpidhnaa
