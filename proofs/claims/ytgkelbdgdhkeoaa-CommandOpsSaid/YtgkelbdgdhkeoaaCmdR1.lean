/- The reference's Names, has, in, Same, May, walked. -/
import Derived.Test.YtgkelbdgdhkeoaaCmdR0
import Derived.Test.YtgkelbdgdhkeoaaCmd2
namespace Go.Proofs.Ytgkelbdgdhkeoaa
open Go.RowKit
set_option linter.unusedVariables false
set_option linter.unusedSimpArgs false
open Wire Cmd

set_option maxRecDepth 100000 in
set_option maxHeartbeats 3200000 in
theorem rnames_any (k : Int) (w : World) : Calls Try.prog 91 #[.int .i64 k] w fun e w' => e = .returned (.string (strB (nm k))) ∧ w = w' := by
  by_cases hc : k = 1 ∨ k = 2 ∨ k = 3 ∨ k = 4 ∨ k = 5 ∨ k = 6 ∨ k = 7 ∨ k = 9
  · rcases hc with rfl | rfl | rfl | rfl | rfl | rfl | rfl | rfl
    all_goals
      go_enter Try.func91, Try.ntmps91
      go_wp2_with fail
      go_ret
      exact ⟨rfl, rfl⟩
  · have HE : Hid (strB (nm k) = ⟨#[]⟩) := Lib.hid (by
      have : nm k = [] := by unfold nm; repeat rw [if_neg (by omega)]
      rw [this]; rfl)
    have g1 := bneI (show k ≠ 1 by omega)
    have g2 := bneI (show k ≠ 2 by omega)
    have g3 := bneI (show k ≠ 3 by omega)
    have g4 := bneI (show k ≠ 4 by omega)
    have g5 := bneI (show k ≠ 5 by omega)
    have g6 := bneI (show k ≠ 6 by omega)
    have g7 := bneI (show k ≠ 7 by omega)
    have g9 := bneI (show k ≠ 9 by omega)
    clear hc
    go_enter Try.func91, Try.ntmps91
    go_wp2_with fail
    go_ret
    exact ⟨by rw [HE.out]; rfl, rfl⟩

set_option maxRecDepth 100000 in
set_option maxHeartbeats 3200000 in
theorem has_any (k : Int) (c : UInt8) (w : World) : Calls Try.prog 85 #[.int .i64 k, .int .u8 (c.toNat : Int)] w fun e w' => e = .returned (.bool (hasK k c)) ∧ w = w' := by
  have CN := rnames_any k w
  have hsz : (strB (nm k)).size ≤ 3 := by rw [← chs_len]; simp only [chs, strB]; simpa using nm_len k
  have hcs : chs (strB (nm k)) = nm k := by simp [chs, strB]
  have HCS := Lib.hid hcs
  clear hcs
  generalize hs : strB (nm k) = s at *
  clear hs
  go_enter Try.func85, Try.ntmps85
  go_wp2_with fail
  refine CN.mono ?_
  rintro e w1 ⟨rfl, rfl⟩
  clear CN
  go_wp2_with fail
  go_loop [6] (fun i => ∃ p : Nat, p ≤ s.size ∧ i = .int .i64 (p : Int) ∧ ((nm k).take p).contains c = false) (fun i => s.size - (intOf i).toNat)
  case atStart => exact ⟨0, by omega, rfl, rfl⟩
  case round =>
    obtain ⟨p, hp, rfl, hno⟩ := hrel
    have HNO := Lib.hid hno
    clear hno
    by_cases hlt : p < s.size
    · have hget := chs_get hlt
      rw [HCS.out] at hget
      have HGET := Lib.hid hget
      clear hget
      by_cases hc : (s[p]'hlt) = c
      · have hq : (((s[p]'hlt).toNat : Int) == (c.toNat : Int)) = true := by rw [hc]; simp
        have HE : Hid (hasK k c = true) := Lib.hid (by
          unfold hasK
          rw [List.contains_iff_mem]
          have := List.mem_of_getElem? HGET.out
          rwa [hc] at this)
        clear hc
        go_wp2_with fail
        go_ret
        exact ⟨by rw [HE.out]; rfl, rfl⟩
      · have hq : (((s[p]'hlt).toNat : Int) == (c.toNat : Int)) = false := by
          rw [beq_eq_false_iff_ne]; intro h; exact hc (UInt8.toNat_inj.1 (by omega))
        have HN : Hid (((nm k).take (p + 1)).contains c = false) := Lib.hid (by
          rw [List.take_add_one, HGET.out]
          have h1 := HNO.out
          rw [Bool.eq_false_iff]
          rw [Bool.eq_false_iff, ne_eq, List.contains_iff_mem] at h1
          intro h
          rw [List.contains_iff_mem] at h
          rcases List.mem_append.1 h with h2 | h2
          · exact h1 h2
          · simp at h2; exact hc h2.symm)
        clear hc
        go_wp2_with fail
        go_round
        case rel => exact ⟨p + 1, by omega, by go_num, HN.out⟩
        case measure => simp [intOf]; omega
    · obtain rfl : p = s.size := by omega
      have HE : Hid (hasK k c = false) := Lib.hid (by
        unfold hasK
        have h1 := HNO.out
        rwa [List.take_of_length_le (by rw [← HCS.out, chs_len]; exact Nat.le_refl _)] at h1)
      go_wp2_with fail
      go_ret
      exact ⟨by rw [HE.out]; rfl, rfl⟩

set_option maxRecDepth 100000 in
set_option maxHeartbeats 1600000 in
theorem in_any (b : Bool) (lo n hi : Int) (w : World) : Calls Try.prog 84 #[.bool b, .int .i64 lo, .int .i64 n, .int .i64 hi] w fun e w' => e = .returned (.bool (inP b lo n hi)) ∧ w = w' := by
  cases b with
  | false =>
    by_cases h : n = 0
    · have HE : Hid (inP false lo n hi = true) := Lib.hid (by unfold inP; simp [h])
      have g := beqI h
      clear h
      go_enter Try.func84, Try.ntmps84
      go_wp2_with fail
      go_ret
      exact ⟨by rw [HE.out]; rfl, rfl⟩
    · have HE : Hid (inP false lo n hi = false) := Lib.hid (by unfold inP; simp [h])
      have g := bneI h
      clear h
      go_enter Try.func84, Try.ntmps84
      go_wp2_with fail
      go_ret
      exact ⟨by rw [HE.out]; rfl, rfl⟩
  | true =>
    by_cases h1 : lo ≤ n
    · by_cases h2 : n ≤ hi
      · have HE : Hid (inP true lo n hi = true) := Lib.hid (by unfold inP; simp [h1, h2])
        go_enter Try.func84, Try.ntmps84
        go_wp2_with fail
        go_ret
        exact ⟨by rw [HE.out]; rfl, rfl⟩
      · have HE : Hid (inP true lo n hi = false) := Lib.hid (by unfold inP; simp [h2])
        have g : decide (n ≤ hi) = false := decide_eq_false h2
        have g2 : hi < n := by omega
        clear h2
        go_enter Try.func84, Try.ntmps84
        go_wp2_with fail
        go_ret
        exact ⟨by rw [HE.out]; rfl, rfl⟩
    · have HE : Hid (inP true lo n hi = false) := Lib.hid (by unfold inP; simp [h1])
      have g2 : n < lo := by omega
      clear h1
      go_enter Try.func84, Try.ntmps84
      go_wp2_with fail
      go_ret
      exact ⟨by rw [HE.out]; rfl, rfl⟩
end Go.Proofs.Ytgkelbdgdhkeoaa
