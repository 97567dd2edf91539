/- opBytes, itemShape, shapeOf; the reference's shape, walked. -/
import Derived.Test.YtgkelbdgdhkeoaaGreatPMsg5
import Derived.Test.YtgkelbdgdhkeoaaGreatPReadsL
namespace Go.Proofs.YtgkelbdgdhkeoaaGreat
open Go.RowKit
set_option linter.unusedVariables false
set_option linter.unusedSimpArgs false
open Wire Cmd
set_option maxRecDepth 100000 in
set_option maxHeartbeats 1600000 in
theorem shapeI_any (k : Int) (w : World) : Calls Tryz.prog 58 #[.int .i64 k] w fun e w' => e = .returned (.string (strB (shapeI k))) ∧ w = w' := by
 by_cases hc : k = 5 ∨ k = 4 ∨ k = 3 ∨ k = 2
 ·rcases hc with rfl | rfl | rfl | rfl
  all_goals
   go_enter Tryz.func58, Tryz.ntmps58
   go_wp2_with fail
   go_ret
   exact ⟨rfl, rfl⟩
 ·have HE : Hid (strB (shapeI k) = ⟨#[49, 52]⟩) := Lib.hid (by
   have : shapeI k = [49, 52] := by unfold shapeI; repeat rw [if_neg (by omega)]
   rw [this]; rfl)
  have g5 := bneI (show k ≠ 5 by omega)
  have g4 := bneI (show k ≠ 4 by omega)
  have g3 := bneI (show k ≠ 3 by omega)
  have g2 := bneI (show k ≠ 2 by omega)
  clear hc
  go_enter Tryz.func58, Tryz.ntmps58
  go_wp2_with fail
  go_ret
  exact ⟨by rw [HE.out]; rfl, rfl⟩
set_option maxRecDepth 100000 in
set_option maxHeartbeats 3200000 in
theorem shapeC_any (c k : Int) (w : World) : Calls Tryz.prog 39 #[.int .i32 c, .int .i64 k] w fun e w' => e = .returned (.string (strB (shapeC c k))) ∧ w = w' := by
 by_cases hc : c = 116 ∨ c = 108 ∨ c = 102 ∨ c = 109 ∨ c = 111 ∨ c = 98
 ·rcases hc with rfl | rfl | rfl | rfl | rfl | rfl
  all_goals
   go_enter Tryz.func39, Tryz.ntmps39
   go_wp2_with fail
   go_ret
   exact ⟨rfl, rfl⟩
 have g1 := bneI (show c ≠ 116 by omega)
 have g2 := bneI (show c ≠ 108 by omega)
 have g3 := bneI (show c ≠ 102 by omega)
 have g4 := bneI (show c ≠ 109 by omega)
 have g5 := bneI (show c ≠ 111 by omega)
 have g6 := bneI (show c ≠ 98 by omega)
 by_cases h7 : c = 105
 ·subst h7
  have CI : Hid (Calls Tryz.prog 58 #[.int .i64 k] w fun e w' => e = .returned (.string (strB (shapeC 105 k))) ∧ w = w') := Lib.hid (shapeI_any k w)
  clear hc g1 g2 g3 g4 g5 g6
  go_enter Tryz.func39, Tryz.ntmps39
  go_wp2_with fail
  refine CI.out.mono ?_
  rintro e w1 ⟨rfl, rfl⟩
  go_wp2_with fail
  go_ret
  exact ⟨rfl, rfl⟩
 ·have HE : Hid (strB (shapeC c k) = ⟨#[56]⟩) := Lib.hid (by
   have : shapeC c k = [56] := by unfold shapeC; repeat rw [if_neg (by omega)]
   rw [this]; rfl)
  have g7 := bneI h7
  clear hc h7
  go_enter Tryz.func39, Tryz.ntmps39
  go_wp2_with fail
  go_ret
  exact ⟨by rw [HE.out]; rfl, rfl⟩
set_option maxRecDepth 100000 in
set_option maxHeartbeats 3200000 in
theorem rshapeC_any (c : Int) (k : Int) (w : World) (h105 : c ≠ 105) : Calls Tryz.prog 53 #[.int .u8 c] w fun e w' => e = .returned (.string (strB (shapeC c k))) ∧ w = w' := by
 by_cases hc : c = 116 ∨ c = 108 ∨ c = 102 ∨ c = 109 ∨ c = 111 ∨ c = 98
 ·rcases hc with rfl | rfl | rfl | rfl | rfl | rfl
  all_goals
   go_enter Tryz.func53, Tryz.ntmps53
   go_wp2_with fail
   go_ret
   exact ⟨rfl, rfl⟩
 have g1 := bneI (show c ≠ 116 by omega)
 have g2 := bneI (show c ≠ 108 by omega)
 have g3 := bneI (show c ≠ 102 by omega)
 have g4 := bneI (show c ≠ 109 by omega)
 have g5 := bneI (show c ≠ 111 by omega)
 have g6 := bneI (show c ≠ 98 by omega)
 have HE : Hid (strB (shapeC c k) = ⟨#[56]⟩) := Lib.hid (by
  have : shapeC c k = [56] := by unfold shapeC; repeat rw [if_neg (by omega)]
  rw [this]; rfl)
 clear hc h105
 go_enter Tryz.func53, Tryz.ntmps53
 go_wp2_with fail
 go_ret
 exact ⟨by rw [HE.out]; rfl, rfl⟩
end Go.Proofs.YtgkelbdgdhkeoaaGreat
