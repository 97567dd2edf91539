/- The methods of count.Area at an area that is not there, or a zero one. (Printed by nil6.py.) -/
import Derived.Test.YtgokaoajpidhnaaCount
namespace Go.Proofs.Ytgokaoajpidhnaa
open Go.RowKit
set_option linter.unusedVariables false

/-- No area, or a zero one. -/
def NoArea (w : World) (v : Value) : Prop := v = .pointer none ∨ ∃ p, v = .pointer (some ⟨p, 0, none⟩) ∧ w.cell? ⟨p, 0, none⟩ = some (.slice none 0 0) ∧ w.cell? ⟨p, 2, none⟩ = some (.int .i64 0)

set_option maxRecDepth 100000 in
set_option maxHeartbeats 400000 in
theorem len_no {w : World} {v : Value} (h : NoArea w v) : Calls Try.prog 48 #[v] w fun e w' => e = .returned (.int .i64 0) ∧ w' = w := by
  rcases h with rfl | ⟨p, rfl, k0, k2⟩
  · go_enter Try.func48, Try.ntmps48
    go_wp2
    go_ret
    exact ⟨rfl, rfl⟩
  · go_enter Try.func48, Try.ntmps48
    go_wp2
    go_ret
    exact ⟨rfl, rfl⟩

set_option maxRecDepth 100000 in
set_option maxHeartbeats 400000 in
theorem cursor_no {w : World} {v : Value} (h : NoArea w v) : Calls Try.prog 49 #[v] w fun e w' => e = .returned (.int .i64 0) ∧ w' = w := by
  rcases h with rfl | ⟨p, rfl, k0, k2⟩
  · go_enter Try.func49, Try.ntmps49
    go_wp2
    go_ret
    exact ⟨rfl, rfl⟩
  · go_enter Try.func49, Try.ntmps49
    go_wp2
    go_ret
    exact ⟨rfl, rfl⟩

set_option maxRecDepth 100000 in
set_option maxHeartbeats 400000 in
theorem has_no {w : World} {v : Value} (h : NoArea w v) (k : Int) : Calls Try.prog 73 #[v, .int .i64 k] w fun e w' => e = .returned (.int .i64 1) ∧ w' = w := by
  have L := (len_no h)
  rcases h with rfl | ⟨p, rfl, k0, k2⟩
  · skip
    go_enter Try.func73, Try.ntmps73
    go_wp2_with fail
    refine L.mono ?_
    rintro e w' ⟨rfl, rfl⟩
    go_wp2_with fail
    go_ret
    exact ⟨rfl, rfl⟩
  · clear k0 k2
    go_enter Try.func73, Try.ntmps73
    go_wp2_with fail
    refine L.mono ?_
    rintro e w' ⟨rfl, rfl⟩
    go_wp2_with fail
    go_ret
    exact ⟨rfl, rfl⟩

set_option maxRecDepth 100000 in
set_option maxHeartbeats 400000 in
theorem commit_no {w : World} {v : Value} (h : NoArea w v) : Calls Try.prog 40 #[v] w fun e w' => e = .returned (.tuple #[]) ∧ w' = w := by
  have L := (len_no h)
  rcases h with rfl | ⟨p, rfl, k0, k2⟩
  · skip
    go_enter Try.func40, Try.ntmps40
    go_wp2_with fail
    refine L.mono ?_
    rintro e w' ⟨rfl, rfl⟩
    go_wp2_with fail
    go_end0
    exact ⟨rfl, rfl⟩
  · clear k0 k2
    go_enter Try.func40, Try.ntmps40
    go_wp2_with fail
    refine L.mono ?_
    rintro e w' ⟨rfl, rfl⟩
    go_wp2_with fail
    go_end0
    exact ⟨rfl, rfl⟩

set_option maxRecDepth 100000 in
set_option maxHeartbeats 400000 in
theorem abort_no {w : World} {v : Value} (h : NoArea w v) : Calls Try.prog 41 #[v] w fun e w' => e = .returned (.tuple #[]) ∧ w' = w := by
  have L := (len_no h)
  rcases h with rfl | ⟨p, rfl, k0, k2⟩
  · skip
    go_enter Try.func41, Try.ntmps41
    go_wp2_with fail
    refine L.mono ?_
    rintro e w' ⟨rfl, rfl⟩
    go_wp2_with fail
    go_end0
    exact ⟨rfl, rfl⟩
  · clear k0 k2
    go_enter Try.func41, Try.ntmps41
    go_wp2_with fail
    refine L.mono ?_
    rintro e w' ⟨rfl, rfl⟩
    go_wp2_with fail
    go_end0
    exact ⟨rfl, rfl⟩

set_option maxRecDepth 100000 in
set_option maxHeartbeats 400000 in
theorem alloc_no {w : World} {v : Value} (h : NoArea w v) : Calls Try.prog 42 #[v] w fun e w' => e = .returned (.tuple #[.int .i64 0, .int .i64 1]) ∧ w' = w := by
  have L := (len_no h)
  rcases h with rfl | ⟨p, rfl, k0, k2⟩
  · skip
    go_enter Try.func42, Try.ntmps42
    go_wp2_with fail
    refine L.mono ?_
    rintro e w' ⟨rfl, rfl⟩
    go_wp2_with fail
    go_ret2
    exact ⟨rfl, rfl⟩
  · clear k0 k2
    go_enter Try.func42, Try.ntmps42
    go_wp2_with fail
    refine L.mono ?_
    rintro e w' ⟨rfl, rfl⟩
    go_wp2_with fail
    go_ret2
    exact ⟨rfl, rfl⟩

set_option maxRecDepth 100000 in
set_option maxHeartbeats 400000 in
theorem grow_no {w : World} {v : Value} (h : NoArea w v) (k : Int) : Calls Try.prog 51 #[v, .int .i64 k] w fun e w' => e = .returned (.int .i64 1) ∧ w' = w := by
  have L := (len_no h)
  rcases h with rfl | ⟨p, rfl, k0, k2⟩
  · skip
    go_enter Try.func51, Try.ntmps51
    go_wp2_with fail
    refine L.mono ?_
    rintro e w' ⟨rfl, rfl⟩
    go_wp2_with fail
    go_ret
    exact ⟨rfl, rfl⟩
  · clear k0 k2
    go_enter Try.func51, Try.ntmps51
    go_wp2_with fail
    refine L.mono ?_
    rintro e w' ⟨rfl, rfl⟩
    go_wp2_with fail
    go_ret
    exact ⟨rfl, rfl⟩

set_option maxRecDepth 100000 in
set_option maxHeartbeats 400000 in
theorem copy_no {w : World} {v : Value} (h : NoArea w v) : Calls Try.prog 37 #[v] w fun e w' => e = .returned (.pointer none) ∧ w' = w := by
  have L := (len_no h)
  rcases h with rfl | ⟨p, rfl, k0, k2⟩
  · skip
    go_enter Try.func37, Try.ntmps37
    go_wp2_with fail
    refine L.mono ?_
    rintro e w' ⟨rfl, rfl⟩
    go_wp2_with fail
    go_ret
    exact ⟨rfl, rfl⟩
  · clear k0 k2
    go_enter Try.func37, Try.ntmps37
    go_wp2_with fail
    refine L.mono ?_
    rintro e w' ⟨rfl, rfl⟩
    go_wp2_with fail
    go_ret
    exact ⟨rfl, rfl⟩

set_option maxRecDepth 100000 in
set_option maxHeartbeats 400000 in
theorem dec_no {w : World} {v : Value} (h : NoArea w v) (k : Int) : Calls Try.prog 43 #[v, .int .i64 k] w fun e w' => e = .returned (.tuple #[.int .u16 0, .int .i64 1]) ∧ w' = w := by
  have L := (has_no h k)
  rcases h with rfl | ⟨p, rfl, k0, k2⟩
  · skip
    go_enter Try.func43, Try.ntmps43
    go_wp2_with fail
    refine L.mono ?_
    rintro e w' ⟨rfl, rfl⟩
    go_wp2_with fail
    go_ret2
    exact ⟨rfl, rfl⟩
  · clear k0 k2
    go_enter Try.func43, Try.ntmps43
    go_wp2_with fail
    refine L.mono ?_
    rintro e w' ⟨rfl, rfl⟩
    go_wp2_with fail
    go_ret2
    exact ⟨rfl, rfl⟩

set_option maxRecDepth 100000 in
set_option maxHeartbeats 400000 in
theorem inc_no {w : World} {v : Value} (h : NoArea w v) (k : Int) : Calls Try.prog 44 #[v, .int .i64 k] w fun e w' => e = .returned (.int .i64 1) ∧ w' = w := by
  have L := (has_no h k)
  rcases h with rfl | ⟨p, rfl, k0, k2⟩
  · skip
    go_enter Try.func44, Try.ntmps44
    go_wp2_with fail
    refine L.mono ?_
    rintro e w' ⟨rfl, rfl⟩
    go_wp2_with fail
    go_ret
    exact ⟨rfl, rfl⟩
  · clear k0 k2
    go_enter Try.func44, Try.ntmps44
    go_wp2_with fail
    refine L.mono ?_
    rintro e w' ⟨rfl, rfl⟩
    go_wp2_with fail
    go_ret
    exact ⟨rfl, rfl⟩

set_option maxRecDepth 100000 in
set_option maxHeartbeats 400000 in
theorem set_no {w : World} {v : Value} (h : NoArea w v) (k : Int) : Calls Try.prog 50 #[v, .int .i64 k] w fun e w' => e = .returned (.int .i64 1) ∧ w' = w := by
  have L := (has_no h k)
  rcases h with rfl | ⟨p, rfl, k0, k2⟩
  · skip
    go_enter Try.func50, Try.ntmps50
    go_wp2_with fail
    refine L.mono ?_
    rintro e w' ⟨rfl, rfl⟩
    go_wp2_with fail
    go_ret
    exact ⟨rfl, rfl⟩
  · clear k0 k2
    go_enter Try.func50, Try.ntmps50
    go_wp2_with fail
    refine L.mono ?_
    rintro e w' ⟨rfl, rfl⟩
    go_wp2_with fail
    go_ret
    exact ⟨rfl, rfl⟩

set_option maxRecDepth 100000 in
set_option maxHeartbeats 400000 in
theorem count_no {w : World} {v : Value} (h : NoArea w v) (k : Int) : Calls Try.prog 45 #[v, .int .i64 k] w fun e w' => e = .returned (.int .u16 0) ∧ w' = w := by
  have L := (has_no h k)
  rcases h with rfl | ⟨p, rfl, k0, k2⟩
  · skip
    go_enter Try.func45, Try.ntmps45
    go_wp2_with fail
    refine L.mono ?_
    rintro e w' ⟨rfl, rfl⟩
    go_wp2_with fail
    go_ret
    exact ⟨rfl, rfl⟩
  · clear k0 k2
    go_enter Try.func45, Try.ntmps45
    go_wp2_with fail
    refine L.mono ?_
    rintro e w' ⟨rfl, rfl⟩
    go_wp2_with fail
    go_ret
    exact ⟨rfl, rfl⟩

set_option maxRecDepth 100000 in
set_option maxHeartbeats 400000 in
theorem was_no {w : World} {v : Value} (h : NoArea w v) (k : Int) : Calls Try.prog 46 #[v, .int .i64 k] w fun e w' => e = .returned (.int .u16 0) ∧ w' = w := by
  have L := (has_no h k)
  rcases h with rfl | ⟨p, rfl, k0, k2⟩
  · skip
    go_enter Try.func46, Try.ntmps46
    go_wp2_with fail
    refine L.mono ?_
    rintro e w' ⟨rfl, rfl⟩
    go_wp2_with fail
    go_ret
    exact ⟨rfl, rfl⟩
  · clear k0 k2
    go_enter Try.func46, Try.ntmps46
    go_wp2_with fail
    refine L.mono ?_
    rintro e w' ⟨rfl, rfl⟩
    go_wp2_with fail
    go_ret
    exact ⟨rfl, rfl⟩
end Go.Proofs.Ytgokaoajpidhnaa
