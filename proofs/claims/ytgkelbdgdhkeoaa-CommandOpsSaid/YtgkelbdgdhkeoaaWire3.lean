/- The reference's May, Least, fits, walked. -/
import Derived.Test.YtgkelbdgdhkeoaaWire2
namespace Go.Proofs.Ytgkelbdgdhkeoaa
open Go.RowKit
set_option linter.unusedVariables false
open Wire

theorem may_take_end (s : ByteArray) : (chs s).take s.size = chs s := List.take_of_length_le (by rw [chs_len]; exact Nat.le_refl _)
set_option maxRecDepth 100000 in
set_option maxHeartbeats 1600000 in
theorem rmay_any (s : ByteArray) (w : World) (hs : s.size ≤ 1000000) : Calls Try.prog 131 #[.string s] w fun e w' => e = .returned (.bool (may (chs s))) ∧ w = w' := by
  have HC := Lib.hid size_any
  go_enter Try.func131, Try.ntmps131
  go_wp2_with fail
  go_loopw [3] (fun i wr => ∃ k : Nat, k ≤ s.size ∧ i = .int .i64 k ∧ w = wr ∧ may (chs s) = may ((chs s).drop k)) (fun i _ => s.size - (intOf i).toNat)
  case atStart => exact ⟨0, by omega, rfl, rfl, rfl⟩
  case round =>
    obtain ⟨k, hk, rfl, rfl, hm⟩ := hrel
    have HM := Lib.hid hm
    by_cases hlt : k < s.size
    · have hd := may_drop hlt
      have HD := Lib.hid hd
      have C := HC.out (s[k]'hlt) w
      clear hm hd
      rcases letter_cases (s[k]'hlt) with ⟨h1, h2, _, _, _, _⟩ | h | h | h | ⟨h1, h2, _, h63, h42, h35⟩
      · have hz : ((szN (s[k]'hlt) : Int) == 0) = false := by rw [h2]; simp; omega
        have HN : Hid (may (chs s) = may ((chs s).drop (k + 1))) := Lib.hid (by rw [HM.out, HD.out]; simp [h1])
        clear h1 h2
        go_wp2_with fail
        refine C.mono ?_
        rintro e w1 ⟨rfl, rfl⟩
        go_wp2_with fail
        go_roundw
        case rel => exact ⟨k + 1, by omega, by go_num, by trivial, HN.out⟩
        case measure => simp [intOf]; omega
      · have HN : Hid (may (chs s) = may ((chs s).drop (k + 1))) := Lib.hid (by rw [HM.out, HD.out, h]; rfl)
        have h5 : (s[k]'hlt).toNat = 63 := by rw [h]; rfl
        rw [show szN (s[k]'hlt) = 0 from by rw [h]; rfl] at C
        rw [h5] at C
        have h6 : (((s[k]'hlt).toNat : Int)) = 63 := by omega
        clear h h5
        go_wp2_with fail
        refine C.mono ?_
        rintro e w1 ⟨rfl, rfl⟩
        go_wp2_with fail
        go_roundw
        case rel => exact ⟨k + 1, by omega, by go_num, by trivial, HN.out⟩
        case measure => simp [intOf]; omega
      · have HN : Hid (may (chs s) = may ((chs s).drop (k + 1))) := Lib.hid (by rw [HM.out, HD.out, h]; rfl)
        have h5 : (s[k]'hlt).toNat = 42 := by rw [h]; rfl
        rw [show szN (s[k]'hlt) = 0 from by rw [h]; rfl] at C
        rw [h5] at C
        have h6 : (((s[k]'hlt).toNat : Int)) = 42 := by omega
        clear h h5
        go_wp2_with fail
        refine C.mono ?_
        rintro e w1 ⟨rfl, rfl⟩
        go_wp2_with fail
        go_roundw
        case rel => exact ⟨k + 1, by omega, by go_num, by trivial, HN.out⟩
        case measure => simp [intOf]; omega
      · have HN : Hid (may (chs s) = may ((chs s).drop (k + 1))) := Lib.hid (by rw [HM.out, HD.out, h]; rfl)
        have h5 : (s[k]'hlt).toNat = 35 := by rw [h]; rfl
        rw [show szN (s[k]'hlt) = 0 from by rw [h]; rfl] at C
        rw [h5] at C
        have h6 : (((s[k]'hlt).toNat : Int)) = 35 := by omega
        clear h h5
        go_wp2_with fail
        refine C.mono ?_
        rintro e w1 ⟨rfl, rfl⟩
        go_wp2_with fail
        go_roundw
        case rel => exact ⟨k + 1, by omega, by go_num, by trivial, HN.out⟩
        case measure => simp [intOf]; omega
      · have HN : Hid (may (chs s) = false) := Lib.hid (by rw [HM.out, HD.out, h1]; rfl)
        have n1 := (byte_ne h63).2
        have n2 := (byte_ne h42).2
        have n3 := (byte_ne h35).2
        simp only [UInt8.reduceToNat, Int.cast_ofNat_Int] at n1 n2 n3
        rw [h2] at C
        clear h1 h2 h63 h42 h35
        go_wp2_with fail
        refine C.mono ?_
        rintro e w1 ⟨rfl, rfl⟩
        go_wp2_with fail
        go_ret
        exact ⟨by rw [HN.out]; rfl, by trivial⟩
    · obtain rfl : k = s.size := by omega
      clear hm
      go_wp2_with fail
      go_ret
      exact ⟨by rw [HM.out, may_end]; rfl, by trivial⟩

set_option maxRecDepth 100000 in
set_option maxHeartbeats 3200000 in
theorem rleast_any (s : ByteArray) (w : World) (hs : s.size ≤ 1000000) : Calls Try.prog 141 #[.string s] w fun e w' => e = .returned (.int .i64 (least (chs s) : Int)) ∧ w = w' := by
  have HC := Lib.hid size_any
  have CM := fun w => rmay_any s w hs
  by_cases h0 : s.size = 0
  · have he : chs s = [] := List.eq_nil_of_length_eq_zero (by rw [chs_len]; exact h0)
    have HE : Hid (least (chs s) = 0) := Lib.hid (by rw [he]; rfl)
    clear he
    go_enter Try.func141, Try.ntmps141
    go_wp2_with fail
    go_loopw [3, 4] (fun n i wr => n = .int .i64 0 ∧ i = .int .i64 0 ∧ w = wr) (fun n i _ => 0)
    case atStart => exact ⟨rfl, rfl, rfl⟩
    case round =>
      obtain ⟨rfl, rfl, rfl⟩ := hrel
      go_wp2_with fail
      go_ret
      exact ⟨by rw [HE.out]; rfl, by trivial⟩
  · have hpos : 0 < s.size := by omega
    clear h0
    unfold least
    cases hmm : may (chs s) with
    | false =>
      rw [hmm] at CM
      clear hmm
      go_enter Try.func141, Try.ntmps141
      go_wp2_with fail
      go_loopw [3, 4] (fun n i wr => n = .int .i64 0 ∧ i = .int .i64 0 ∧ w = wr) (fun n i _ => 0)
      case atStart => exact ⟨rfl, rfl, rfl⟩
      case round =>
        obtain ⟨rfl, rfl, rfl⟩ := hrel
        go_wp2_with fail
        refine (CM _).mono ?_
        rintro e w1 ⟨rfl, rfl⟩
        go_wp2_with fail
        go_ret
        exact ⟨rfl, by trivial⟩
    | true =>
      rw [hmm] at CM
      have HMM := Lib.hid hmm
      clear hmm
      go_enter Try.func141, Try.ntmps141
      go_wp2_with fail
      go_loopw [3, 4] (fun n i wr => ∃ k : Nat, k ≤ s.size ∧ i = .int .i64 k ∧ w = wr ∧ n = .int .i64 (sumW ((chs s).take k) : Int)) (fun n i _ => s.size - (intOf i).toNat)
      case atStart => exact ⟨0, by omega, rfl, rfl, rfl⟩
      case round =>
        obtain ⟨k, hk, rfl, rfl, rfl⟩ := hrel
        by_cases hlt : k < s.size
        · have hw : wid (s[k]'hlt) ≠ 0 := by
            have h1 := List.all_eq_true.1 HMM.out (s[k]'hlt) (List.mem_of_getElem? (chs_get hlt))
            simpa using h1
          have HS : Hid (sumW ((chs s).take (k + 1)) = sumW ((chs s).take k) + wid (s[k]'hlt)) := Lib.hid (by rw [chs_take hlt]; simp [sumW])
          have C := HC.out (s[k]'hlt) w
          have hle := sumW_le ((chs s).take k)
          have hl2 : ((chs s).take k).length ≤ k := List.length_take_le _ _
          have CM' := CM w
          rcases letter_cases (s[k]'hlt) with ⟨_, h2, h3, h63, h42, h35⟩ | h | h | h | ⟨h1, _⟩
          · have n1 := (byte_ne h63).1
            have n2 := (byte_ne h42).1
            have n3 := (byte_ne h35).1
            simp only [UInt8.reduceToNat, Int.cast_ofNat_Int] at n1 n2 n3
            have hsl := szN_le (s[k]'hlt)
            rw [← h2] at HS
            clear h2 h3 h63 h42 h35 hw CM
            go_wp2_with fail
            refine CM'.mono ?_
            rintro e w1 ⟨rfl, rfl⟩
            go_wp2_with fail
            refine C.mono ?_
            rintro e w1 ⟨rfl, rfl⟩
            go_wp2_with fail
            go_roundw
            case rel => exact ⟨k + 1, by omega, by go_num, by trivial, by rw [HS.out]; go_num⟩
            case measure => simp [intOf]; omega
          rotate_right
          · exact absurd h1 hw
          · rw [h] at HS
            have h6 : (((s[k]'hlt).toNat : Int)) = 63 := by rw [h]; rfl
            have h7 : szN (s[k]'hlt) = 0 := by rw [h]; rfl
            rw [h7, h6] at C
            clear h h7 hw CM
            go_wp2_with fail
            refine CM'.mono ?_
            rintro e w1 ⟨rfl, rfl⟩
            go_wp2_with fail
            refine C.mono ?_
            rintro e w1 ⟨rfl, rfl⟩
            go_wp2_with fail
            go_roundw
            case rel => exact ⟨k + 1, by omega, by go_num, by trivial, by rw [HS.out]; go_num⟩
            case measure => simp [intOf]; omega
          · rw [h] at HS
            have h6 : (((s[k]'hlt).toNat : Int)) = 42 := by rw [h]; rfl
            have h7 : szN (s[k]'hlt) = 0 := by rw [h]; rfl
            rw [h7, h6] at C
            clear h h7 hw CM
            go_wp2_with fail
            refine CM'.mono ?_
            rintro e w1 ⟨rfl, rfl⟩
            go_wp2_with fail
            refine C.mono ?_
            rintro e w1 ⟨rfl, rfl⟩
            go_wp2_with fail
            go_roundw
            case rel => exact ⟨k + 1, by omega, by go_num, by trivial, by rw [HS.out]; go_num⟩
            case measure => simp [intOf]; omega
          · rw [h] at HS
            have h6 : (((s[k]'hlt).toNat : Int)) = 35 := by rw [h]; rfl
            have h7 : szN (s[k]'hlt) = 0 := by rw [h]; rfl
            rw [h7, h6] at C
            clear h h7 hw CM
            go_wp2_with fail
            refine CM'.mono ?_
            rintro e w1 ⟨rfl, rfl⟩
            go_wp2_with fail
            refine C.mono ?_
            rintro e w1 ⟨rfl, rfl⟩
            go_wp2_with fail
            go_roundw
            case rel => exact ⟨k + 1, by omega, by go_num, by trivial, by rw [HS.out]; go_num⟩
            case measure => simp [intOf]; omega
        · obtain rfl : k = s.size := by omega
          rw [may_take_end] at *
          clear CM
          go_wp2_with fail
          go_ret
          exact ⟨rfl, by trivial⟩
end Go.Proofs.Ytgkelbdgdhkeoaa
