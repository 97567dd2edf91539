/- The reference's fits, sum, Low, walked. -/
import Derived.Test.YtgkelbdgdhkeoaaWire4
namespace Go.Proofs.Ytgkelbdgdhkeoaa
open Go.RowKit
set_option linter.unusedVariables false
set_option linter.unusedSimpArgs false
open Wire

set_option maxRecDepth 100000 in
set_option maxHeartbeats 1600000 in
theorem fits_any (n k : Nat) (w : World) (hn : n < 18446744073709551616) (hk : k ≤ 1000) : Calls Try.prog 133 #[.int .u64 (n : Int), .int .i64 (k : Int)] w fun e w' => e = .returned (.bool (n / 256 ^ k == 0)) ∧ w = w' := by
  go_enter Try.func133, Try.ntmps133
  go_wp2_with fail
  go_loop [0, 5] (fun x i => ∃ j y : Nat, j ≤ k ∧ i = .int .i64 (j : Int) ∧ x = .int .u64 (y : Int) ∧ y = n / 256 ^ j) (fun _ i => k - (intOf i).toNat)
  case atStart => exact ⟨0, n, by omega, rfl, rfl, by simp⟩
  case round =>
    obtain ⟨j, y, hj, rfl, rfl, hy⟩ := hrel
    have hy0 := Lib.hid hy
    have hyn : y < 18446744073709551616 := by rw [hy]; exact Nat.lt_of_le_of_lt (Nat.div_le_self _ _) hn
    clear hy
    by_cases hlt : j < k
    · have HS : Hid (y / 256 = n / 256 ^ (j + 1)) := Lib.hid (by rw [hy0.out, Nat.pow_succ, Nat.div_div_eq_div_mul])
      go_wp2_with fail
      go_round
      case rel => exact ⟨j + 1, y / 256, by omega, by go_num, by go_num, HS.out⟩
      case measure => simp [intOf]; omega
    · obtain rfl : j = k := by omega
      by_cases hz : y = 0
      · subst hz
        go_wp2_with fail
        go_ret
        exact ⟨by rw [← hy0.out]; rfl, rfl⟩
      · have hz2 : ((y : Int) == 0) = false := by simp; omega
        have hz3 : (y == 0) = false := by simp [hz]
        go_wp2_with fail
        go_ret
        exact ⟨by rw [← hy0.out, hz3]; rfl, rfl⟩

theorem sum_take_succ (bs : List UInt8) (j : Nat) (h : j < bs.length) : sum (bs.take (j + 1)) = sum (bs.take j) + 256 ^ j * (bs[j]'h).toNat := by
  rw [List.take_succ_eq_append_getElem h, sum_append, List.length_take, Nat.min_eq_left (by omega)]
  simp [sum]

theorem wrap_u64_nat (x : Nat) : IntKind.u64.wrap (x : Int) = ((x % 18446744073709551616 : Nat) : Int) := by
  simp [IntKind.wrap, IntKind.signed, IntKind.bits]

set_option maxRecDepth 100000 in
set_option maxHeartbeats 3200000 in
theorem rsum_any (v : Value) (m : Nat) (bs : List UInt8) (w : World) (hrd : Rd w 1 v m (bV bs)) (hm : m ≤ 8) : Calls Try.prog 143 #[v] w fun e w' => e = .returned (.int .u64 (sum bs : Int)) ∧ w = w' := by
  have hlen : bs.length = m := by obtain ⟨_, _, _, hl, _⟩ := hrd; simpa [bV] using hl
  have HL := Lib.hid hlen
  obtain ⟨ao, cap, rfl, _, _, ⟨hn, hc1, hc2⟩, hcell⟩ := hrd
  unfold maxLen at hc2
  have HC := Lib.hid hcell
  clear hcell hlen hn
  go_enter Try.func143, Try.ntmps143
  go_wp2_with fail
  go_loop [3, 4, 5] (fun x u i => ∃ j y z : Nat, j ≤ m ∧ i = .int .i64 (j : Int) ∧ x = .int .u64 (y : Int) ∧ y = sum (bs.take j) ∧ u = .int .u64 (z : Int) ∧ (j < 8 → z = 256 ^ j) ∧ z < 18446744073709551616) (fun _ _ i => m - (intOf i).toNat)
  case atStart => exact ⟨0, 0, 1, by omega, rfl, rfl, by simp [sum], rfl, by simp, by omega⟩
  case round =>
    obtain ⟨j, y, z, hj, rfl, rfl, hy, rfl, hz, hz2⟩ := hrel
    have HY := Lib.hid hy
    by_cases hlt : j < m
    · have hjb : j < bs.length := by rw [HL.out]; exact hlt
      obtain ⟨b, off, rfl, hbl, hce⟩ := HC.out j _ (bV_get (List.getElem?_eq_getElem hjb))
      have HS := Lib.hid (sum_take_succ bs j hjb)
      have hyl : y < 256 ^ j := by rw [hy]; have := sum_lt (bs.take j); rwa [List.length_take, Nat.min_eq_left (by omega)] at this
      have hz' := hz (by omega)
      have hcb := byte_lt (bs[j]'hjb)
      generalize (bs[j]'hjb).toNat = c at *
      have hp : 256 ^ j ≤ 256 ^ 7 := Nat.pow_le_pow_right (by omega) (by omega)
      have hzz : z ≤ 72057594037927936 := by rw [hz']; simpa using hp
      have hy7 : y < 72057594037927936 := by have : (256 : Nat) ^ 7 = 72057594037927936 := by decide
                                             omega
      have hcz : c * z ≤ 255 * z := Nat.mul_le_mul_right _ (by omega)
      have hci : (c : Int) * (z : Int) = ((c * z : Nat) : Int) := by simp
      have HZ := Lib.hid hz'
      obtain ⟨q, hq⟩ : ∃ q, q = c * z := ⟨_, rfl⟩
      rw [← hq] at hcz hci
      have HQ := Lib.hid hq
      clear hy hz hz' hyl hp hq
      go_wp2_with fail
      go_round
      case rel =>
        refine ⟨j + 1, y + q, z * 256 % 18446744073709551616, by omega, by go_num, by go_num, ?_, ?_, ?_, by omega⟩
        · rw [HS.out, ← HY.out, ← HZ.out, HQ.out, Nat.mul_comm z]
        · have h := wrap_u64_nat (z * 256)
          have e : ((z * 256 : Nat) : Int) = (z : Int) * 256 := by omega
          rw [e] at h
          rw [h]
        · intro h8
          have hp2 : 256 ^ (j + 1) ≤ 256 ^ 7 := Nat.pow_le_pow_right (by omega) (by omega)
          rw [Nat.pow_succ, ← HZ.out] at hp2 ⊢
          have e7 : (256 : Nat) ^ 7 = 72057594037927936 := by decide
          rw [e7] at hp2
          exact Nat.mod_eq_of_lt (by omega)
      case measure => simp [intOf]; omega
    · obtain rfl : j = m := by omega
      have HE : Hid (sum bs = y) := Lib.hid (by rw [hy, ← HL.out, List.take_length])
      clear hy hz
      go_wp2_with fail
      go_ret
      exact ⟨by rw [HE.out]; rfl, rfl⟩

theorem rep_set (a : List Value) (k : Nat) (x y : Value) : (a ++ List.replicate (k + 1) y).set a.length x = a ++ x :: List.replicate k y := by
  rw [List.set_append_right _ _ (Nat.le_refl _), Nat.sub_self, List.replicate_succ]
  rfl

set_option maxRecDepth 100000 in
set_option maxHeartbeats 3200000 in
theorem rlow_any (n k : Nat) (w : World) (hn : n < 18446744073709551616) (hk : k ≤ 1000) :
    Calls Try.prog 122 #[.int .u64 (n : Int), .int .i64 (k : Int)] w fun e w' => ∃ v', e = .returned v' ∧ w'.ownsRow w.heap.size 5 1 v' k (bV (low n k)) ∧ Below w.heap.size w w' := by
  obtain ⟨B, hB⟩ : ∃ B, w.heap.size = B := ⟨_, rfl⟩
  have HB := Lib.hid hB
  go_enter Try.func122, Try.ntmps122
  go_wp2_with (at_make; go_must (refine wpList_mk rfl _ _ 24 rfl B 5 (.int .u8 0) 1 1 Try.underlying24 infoByte (by decide) _ _ _ _ k rfl rfl (by go_num) (by go_num) (by omega) (by omega) ?_); intro w1 ho1 hb1)
  obtain ⟨C, hh, hC⟩ : ∃ C : Array Value, w1.heap[B]? = some (.cells C 5 (0, 0)) ∧ C.toList = List.replicate k (.int .u8 0) := by
    rcases ho1.2 with ⟨h, _⟩ | ⟨g, cap, cur, hv, hg, hgh, h1, h2, h3, h4⟩
    · cases h
    · obtain ⟨e1, e2, e3⟩ := Value.slice.inj hv
      obtain rfl : g = B := by have := Option.some.inj e1; simp at this; omega
      subst e3
      refine ⟨cur, hgh, ?_⟩
      rw [Nat.mul_one] at h3 h4
      rw [List.take_of_length_le (by simp; omega)] at h4
      rw [h4]
      simp [Value.cells, toList_madeCells_one]
  have HH := Lib.hid (And.intro hh hC)
  have HB1 := Lib.hid hb1
  clear ho1 hh hC hb1 hB
  go_wp2_with fail
  go_loopw [0, 6] (fun x i wr => ∃ (j y : Nat) (C : Array Value), j ≤ k ∧ i = .int .i64 (j : Int) ∧ x = .int .u64 (y : Int) ∧ y = n / 256 ^ j ∧ wr.heap[B]? = some (.cells C 5 (0, 0)) ∧ C.toList = bV (low n j) ++ List.replicate (k - j) (.int .u8 0) ∧ Below B w wr) (fun _ i _ => k - (intOf i).toNat)
  case atStart => exact ⟨0, n, C, by omega, rfl, rfl, by simp, HH.out.1, by simpa [low, bV] using HH.out.2, HB1.out⟩
  case round =>
    obtain ⟨j, y, C, hj, rfl, rfl, hy, hh, hC, hbw⟩ := hrel
    have hy0 := Lib.hid hy
    have hyn : y < 18446744073709551616 := by rw [hy]; exact Nat.lt_of_le_of_lt (Nat.div_le_self _ _) hn
    have HHH := Lib.hid (And.intro hh (And.intro hC hbw))
    have hlen : (bV (low n j)).length = j := by rw [bV_len, low_len]
    have HLN := Lib.hid hlen
    clear hy
    by_cases hlt : j < k
    · have hcell : wr.cell? ⟨B, j, none⟩ = some (.int .u8 0) := by
        refine cellOf hh j ?_
        have e : C[j]? = C.toList[j]? := by simp
        rw [e, hC, List.getElem?_append_right (by omega), hlen, Nat.sub_self, List.getElem?_replicate]
        simp; omega
      have hfr := frozenOf hh j
      have hsz : C.size = k := by rw [← Array.length_toList, hC]; simp [bV_len, low_len]; omega
      have HS : Hid (y / 256 = n / 256 ^ (j + 1)) := Lib.hid (by rw [hy0.out, Nat.pow_succ, Nat.div_div_eq_div_mul])
      have HNX : ∀ x : Value, x = .int .u8 ((y : Int) % 256) → (wr.setCell ⟨B, j, none⟩ x).heap[B]? = some (.cells (C.setIfInBounds j x) 5 (0, 0)) ∧ (C.setIfInBounds j x).toList = bV (low n (j + 1)) ++ List.replicate (k - (j + 1)) (.int .u8 0) ∧ Below B w (wr.setCell ⟨B, j, none⟩ x) := by
        intro x hx
        refine ⟨setOf hh j x, ?_, hbw.setCell (p := ⟨B, j, none⟩) (Nat.le_refl _) x⟩
        obtain ⟨q, hq⟩ : ∃ q, k - j = q + 1 := ⟨k - j - 1, by omega⟩
        have e := rep_set (bV (low n j)) q x (.int .u8 0)
        rw [hlen] at e
        rw [Array.toList_setIfInBounds, hC, hq, e, low_succ, bV_app, show k - (j + 1) = q by omega, hx, ← hy0.out]
        simp [bV]
      have HN := Lib.hid HNX
      clear hh hC hbw hlen HNX
      go_wp2_with fail
      go_roundw
      case rel =>
        have h := HN.out _ rfl
        exact ⟨j + 1, y / 256, C.setIfInBounds j _, by omega, by go_num, by go_num, HS.out, h.1, h.2.1, h.2.2⟩
      case measure => simp [intOf]; omega
    · obtain rfl : j = k := by omega
      have hsz : C.size = j := by rw [← Array.length_toList, hC]; simp [bV_len, low_len]
      go_wp2_with fail
      go_ret
      have hB2 := HB.out
      rw [hB2]
      rw [Nat.sub_self, List.replicate_zero, List.append_nil] at hC
      have ho : wr.ownsRow B 5 1 (.slice (some ⟨B, 0, none⟩) j j) j (bV (low n j)) := by
        refine ⟨by rw [bV_len, low_len, Nat.mul_one], .inr ⟨B, j, C, rfl, Nat.le_refl _, hh, Nat.le_refl _, Nat.le_trans hk (by decide), by simpa using hsz, ?_⟩⟩
        rw [hC]
        rw [Nat.mul_one]
        exact List.take_of_length_le (by rw [hlen]; exact Nat.le_refl _)
      exact ⟨_, rfl, ho, hbw⟩
end Go.Proofs.Ytgkelbdgdhkeoaa
