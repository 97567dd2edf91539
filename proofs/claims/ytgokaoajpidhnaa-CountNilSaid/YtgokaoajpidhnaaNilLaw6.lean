/- CountNil, walked. -/
import Derived.Test.YtgokaoajpidhnaaNil6
import Derived.Test.YtgokaoajpidhnaaKnown6
namespace Go.Proofs.Ytgokaoajpidhnaa
open Go.RowKit
set_option linter.unusedVariables false

set_option maxRecDepth 100000 in
set_option maxHeartbeats 400000 in
theorem free_no {w : World} {v : Value} (h : NoArea w v) : Calls Try.prog 47 #[v] w fun e w' => e = .returned (.int .i64 0) ∧ w' = w := by
  have L := len_no h
  rcases h with rfl | ⟨p, rfl, k0, k2⟩
  · go_enter Try.func47, Try.ntmps47
    go_wp2_with fail
    refine L.mono ?_
    rintro e w' ⟨rfl, rfl⟩
    clear L
    go_wp2_with fail
    go_loop [2, 6] (fun c i => c = .int .i64 0 ∧ i = .int .i64 0) (fun c i => 0)
    case atStart => exact ⟨rfl, rfl⟩
    case round =>
      obtain ⟨rfl, rfl⟩ := hrel
      go_wp2_with fail
      go_ret
      exact ⟨rfl, rfl⟩
  · clear k0 k2
    go_enter Try.func47, Try.ntmps47
    go_wp2_with fail
    refine L.mono ?_
    rintro e w' ⟨rfl, rfl⟩
    clear L
    go_wp2_with fail
    go_loop [2, 6] (fun c i => c = .int .i64 0 ∧ i = .int .i64 0) (fun c i => 0)
    case atStart => exact ⟨rfl, rfl⟩
    case round =>
      obtain ⟨rfl, rfl⟩ := hrel
      go_wp2_with fail
      go_ret
      exact ⟨rfl, rfl⟩

set_option maxRecDepth 100000 in
set_option maxHeartbeats 400000 in
theorem counts_no {w : World} {v : Value} (h : NoArea w v) : Calls Try.prog 39 #[v] w fun e w' => e = .returned (.slice none 0 0) ∧ w' = w := by
  have he := fun w a n c => Lib.run_eql_slice_nil (P := Try.prog) w 47 65 a n c 0 0 Try.underlying47
  rcases h with rfl | ⟨p, rfl, k0, k2⟩
  · go_enter Try.func39, Try.ntmps39
    go_wp2
    go_ret
    exact ⟨rfl, rfl⟩
  · go_enter Try.func39, Try.ntmps39
    go_wp2
    go_ret
    exact ⟨rfl, rfl⟩

set_option maxRecDepth 100000 in
set_option maxHeartbeats 3200000 in
theorem countNil_walk {w : World} : Calls Try.prog 9 #[] w fun e w' => e = .returned (.bool true) ∧ Below w.heap.size w w' := by
  have hz := heap_alloc_new w (.cells #[.slice none 0 0, .slice none 0 0, .int .i64 0, .int .i64 0] 68)
  have hz2 : ((w.alloc (.cells #[.slice none 0 0, .slice none 0 0, .int .i64 0, .int .i64 0] 68)).alloc (.cells #[.pointer none, .pointer (some ⟨w.heap.size, 0, none⟩)] 49)).heap[w.heap.size]? = _ := (Below.heap_alloc _ _ w.heap.size (by simp)).trans hz
  have hs := heap_alloc_new (w.alloc (.cells #[.slice none 0 0, .slice none 0 0, .int .i64 0, .int .i64 0] 68)) (.cells #[.pointer none, .pointer (some ⟨w.heap.size, 0, none⟩)] 49)
  have hB := balloc (balloc (Below.refl _ w) (.cells #[.slice none 0 0, .slice none 0 0, .int .i64 0, .int .i64 0] 68)) (.cells #[.pointer none, .pointer (some ⟨w.heap.size, 0, none⟩)] 49)
  have N0 : ∀ W, NoArea W (.pointer none) := fun W => .inl rfl
  have N1 : NoArea _ (.pointer (some ⟨w.heap.size, 0, none⟩)) := .inr ⟨w.heap.size, rfl, cellOf hz2 0 rfl, cellOf hz2 2 rfl⟩
  have s0 := cellOf hs 0 rfl
  have s1 := cellOf hs 1 rfl
  have HN0 := Lib.hid N0
  have HN1 := Lib.hid N1
  clear hz hz2 hs N0 N1
  go_enter Try.func9, Try.ntmps9
  go_wp2_with fail
  go_loop [3] (fun i => ∃ k : Nat, k ≤ 2 ∧ i = .int .i64 k) (fun i => 2 - (intOf i).toNat)
  case atStart => exact ⟨0, by omega, rfl⟩
  case round =>
    obtain ⟨k, hk, rfl⟩ := hrel
    by_cases k0 : k = 0
    · subst k0
      have HV := Lib.hid (HN0.out ((w.alloc (.cells #[.slice none 0 0, .slice none 0 0, .int .i64 0, .int .i64 0] 68)).alloc (.cells #[.pointer none, .pointer (some ⟨w.heap.size, 0, none⟩)] 49)))
      go_wp2_with (first | (go_at_call 40; refine (commit_no HV.out).mono ?_; rintro e w' ⟨rfl, rfl⟩) | (go_at_call 41; refine (abort_no HV.out).mono ?_; rintro e w' ⟨rfl, rfl⟩) | (go_at_call 42; refine (alloc_no HV.out).mono ?_; rintro e w' ⟨rfl, rfl⟩) | (go_at_call 43; refine (dec_no HV.out _).mono ?_; rintro e w' ⟨rfl, rfl⟩) | (go_at_call 44; refine (inc_no HV.out _).mono ?_; rintro e w' ⟨rfl, rfl⟩) | (go_at_call 45; refine (count_no HV.out _).mono ?_; rintro e w' ⟨rfl, rfl⟩) | (go_at_call 46; refine (was_no HV.out _).mono ?_; rintro e w' ⟨rfl, rfl⟩) | (go_at_call 47; refine (free_no HV.out).mono ?_; rintro e w' ⟨rfl, rfl⟩) | (go_at_call 48; refine (len_no HV.out).mono ?_; rintro e w' ⟨rfl, rfl⟩) | (go_at_call 49; refine (cursor_no HV.out).mono ?_; rintro e w' ⟨rfl, rfl⟩) | (go_at_call 50; refine (set_no HV.out _).mono ?_; rintro e w' ⟨rfl, rfl⟩) | (go_at_call 51; refine (grow_no HV.out _).mono ?_; rintro e w' ⟨rfl, rfl⟩) | (go_at_call 39; refine (counts_no HV.out).mono ?_; rintro e w' ⟨rfl, rfl⟩) | (go_at_call 37; refine (copy_no HV.out).mono ?_; rintro e w' ⟨rfl, rfl⟩))
      go_round
      case rel => exact ⟨1, by omega, by go_num⟩
      case measure => simp [intOf]
    · by_cases k1 : k = 1
      · subst k1
        have HV := HN1
        go_wp2_with (first | (go_at_call 40; refine (commit_no HV.out).mono ?_; rintro e w' ⟨rfl, rfl⟩) | (go_at_call 41; refine (abort_no HV.out).mono ?_; rintro e w' ⟨rfl, rfl⟩) | (go_at_call 42; refine (alloc_no HV.out).mono ?_; rintro e w' ⟨rfl, rfl⟩) | (go_at_call 43; refine (dec_no HV.out _).mono ?_; rintro e w' ⟨rfl, rfl⟩) | (go_at_call 44; refine (inc_no HV.out _).mono ?_; rintro e w' ⟨rfl, rfl⟩) | (go_at_call 45; refine (count_no HV.out _).mono ?_; rintro e w' ⟨rfl, rfl⟩) | (go_at_call 46; refine (was_no HV.out _).mono ?_; rintro e w' ⟨rfl, rfl⟩) | (go_at_call 47; refine (free_no HV.out).mono ?_; rintro e w' ⟨rfl, rfl⟩) | (go_at_call 48; refine (len_no HV.out).mono ?_; rintro e w' ⟨rfl, rfl⟩) | (go_at_call 49; refine (cursor_no HV.out).mono ?_; rintro e w' ⟨rfl, rfl⟩) | (go_at_call 50; refine (set_no HV.out _).mono ?_; rintro e w' ⟨rfl, rfl⟩) | (go_at_call 51; refine (grow_no HV.out _).mono ?_; rintro e w' ⟨rfl, rfl⟩) | (go_at_call 39; refine (counts_no HV.out).mono ?_; rintro e w' ⟨rfl, rfl⟩) | (go_at_call 37; refine (copy_no HV.out).mono ?_; rintro e w' ⟨rfl, rfl⟩))
        go_round
        case rel => exact ⟨2, by omega, by go_num⟩
        case measure => simp [intOf]
      · obtain rfl : k = 2 := by omega
        go_wp2_with fail
        refine known6.mono ?_
        rintro e w' ⟨rfl, hb⟩
        go_wp2_with fail
        go_ret
        exact ⟨rfl, bthen hB hb⟩
end Go.Proofs.Ytgokaoajpidhnaa
