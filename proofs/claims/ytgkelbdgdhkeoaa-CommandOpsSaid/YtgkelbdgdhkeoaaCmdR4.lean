/- The reference's shape and value, walked. -/
import Derived.Test.YtgkelbdgdhkeoaaCmdR3
import Derived.Test.YtgkelbdgdhkeoaaMkV
import Derived.Test.YtgkelbdgdhkeoaaCmd5
namespace Go.Proofs.Ytgkelbdgdhkeoaa
open Go.RowKit
set_option linter.unusedVariables false
set_option linter.unusedSimpArgs false
open Wire Cmd

theorem nm_shape (k : Int) : ∀ c ∈ nm k, (c = 100 → shL (c.toNat : Int) = 42) ∧ (c ≠ 100 → shL (c.toNat : Int) = 52) := by unfold nm; (repeat' split) <;> decide

set_option maxRecDepth 100000 in
set_option maxHeartbeats 3200000 in
theorem rshape_any (k : Int) (w : World) : Calls Try.prog 94 #[.int .i64 k] w fun e w' => e = .returned (.string (strB (shS (nm k)))) ∧ w = w' := by
  have CN := rnames_any k w
  have hcs : chs (strB (nm k)) = nm k := by simp [chs, strB]
  have hsz : (strB (nm k)).size ≤ 3 := by rw [← chs_len]; simp only [chs, strB]; simpa using nm_len k
  have HCS := Lib.hid hcs
  have HNS := Lib.hid (nm_shape k)
  clear hcs
  generalize hs : strB (nm k) = s at *
  clear hs
  go_enter Try.func94, Try.ntmps94
  go_wp2_with fail
  go_loop [3, 4] (fun t i => ∃ p : Nat, p ≤ s.size ∧ t = .string (strB (shS ((nm k).take p))) ∧ i = .int .i64 (p : Int)) (fun t i => s.size - (intOf i).toNat)
  case atStart => exact ⟨0, by omega, rfl, rfl⟩
  case round =>
    obtain ⟨p, hp, rfl, rfl⟩ := hrel
    by_cases hlt : p < s.size
    · have hget := chs_get hlt
      rw [HCS.out] at hget
      have hmem := List.mem_of_getElem? hget
      have HT : Hid (shS ((nm k).take (p + 1)) = shS ((nm k).take p) ++ [shL (((s[p]'hlt)).toNat : Int)]) := Lib.hid (by
        rw [List.take_add_one, hget]; exact shS_snoc _ _)
      obtain ⟨q1, q2⟩ := HNS.out _ hmem
      clear hget hmem
      have hXl : (strB (shS ((nm k).take p))).size ≤ 3 := by
        rw [str_size]; unfold shS; rw [List.length_map, List.length_take]; exact Nat.le_trans (Nat.min_le_right _ _) (nm_len k)
      generalize hX : strB (shS ((nm k).take p)) = X at *
      go_wp2_with fail
      refine CN.mono ?_
      rintro e w1 ⟨rfl, rfl⟩
      go_wp2_with fail
      refine CN.mono ?_
      rintro e w1 ⟨rfl, rfl⟩
      by_cases hc : (s[p]'hlt) = 100
      · have hq : (((s[p]'hlt).toNat : Int) == 100) = true := by rw [hc]; rfl
        have HX : Hid (X ++ ⟨#[42]⟩ = strB (shS ((nm k).take (p + 1)))) := Lib.hid (by rw [HT.out, q1 hc, strB_snoc, hX])
        clear hc q1 q2 hX
        go_wp2_with fail
        go_round
        case rel => exact ⟨p + 1, by omega, by rw [← HX.out], by go_num⟩
        case measure => simp [intOf] <;> omega
      · have hq : (((s[p]'hlt).toNat : Int) == 100) = false := by
          rw [beq_eq_false_iff_ne]; intro h; exact hc (UInt8.toNat_inj.1 (by have : (100 : UInt8).toNat = 100 := rfl; omega))
        have HX : Hid (X ++ ⟨#[52]⟩ = strB (shS ((nm k).take (p + 1)))) := Lib.hid (by rw [HT.out, q2 hc, strB_snoc, hX])
        clear hc q1 q2 hX
        go_wp2_with fail
        go_round
        case rel => exact ⟨p + 1, by omega, by rw [← HX.out], by go_num⟩
        case measure => simp [intOf] <;> omega
    · obtain rfl : p = s.size := by omega
      have HE : Hid (strB (shS ((nm k).take s.size)) = strB (shS (nm k))) := Lib.hid (by
        rw [List.take_of_length_le (by rw [← HCS.out, chs_len]; exact Nat.le_refl _)])
      generalize strB (shS ((nm k).take s.size)) = X at *
      go_wp2_with fail
      refine CN.mono ?_
      rintro e w1 ⟨rfl, rfl⟩
      go_wp2_with fail
      go_ret
      exact ⟨by rw [← HE.out]; rfl, rfl⟩
end Go.Proofs.Ytgkelbdgdhkeoaa
