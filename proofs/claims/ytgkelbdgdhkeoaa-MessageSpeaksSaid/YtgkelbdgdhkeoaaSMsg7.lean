/- opBytes, itemShape, shapeOf; the reference's shape, walked. -/
import Derived.Test.YtgkelbdgdhkeoaaSMsg5
import Derived.Test.YtgkelbdgdhkeoaaSReadsL
namespace Go.Proofs.Ytgkelbdgdhkeoaa
open Go.RowKit
set_option linter.unusedVariables false
set_option linter.unusedSimpArgs false
open Wire Cmd
set_option maxRecDepth 100000 in
set_option maxHeartbeats 3200000 in
theorem opB_any (o : Op0) (ok : o.Ok) (sl : Value) (w : World) (hd : Rd w 1 sl o.data.length (bV o.data)) (hl : o.data.length ≤ 1000000) :
  Calls Try.prog 146 #[.agg (oC o sl)] w fun e w' => ∃ v, e = .returned v ∧ w'.ownsRow w.heap.size 5 1 v (opB o).length (bV (opB o)) ∧ Below w.heap.size w w' := by
 obtain ⟨OC, hOC, hol, hon⟩ := oC_list o hd
 have HB : Hid (Below w.heap.size w (w.alloc (.cells OC.toArray 26))) := Lib.hid (balloc (Below.refl _ _) _)
 have CB : Hid (Calls Try.prog 19 #[.agg OC.toArray] (w.alloc (.cells OC.toArray 26)) fun e w' => ∃ v em, e = .returned (.tuple #[v, .int .i64 em]) ∧ w'.ownsRow w.heap.size 5 1 v (opB o).length (bV (opB o)) ∧ Below w.heap.size w w') := Lib.hid (by
  rw [← hOC]
  refine (bytes_any o ok sl _ (hd.below (balloc (Below.refl _ _) _)) hl).mono fun e w' h => ?_
  obtain ⟨hb, hP⟩ := h
  have hbw := bthen (balloc (Below.refl w.heap.size w) (.cells (oC o sl) 26)) hb
  cases hq : packO o with
  | none =>
   rw [hq] at hP
   have e0 : opB o = [] := by unfold opB; rw [hq]; rfl
   rw [e0]
   exact ⟨_, _, hP, World.ownsRow_nil _ _ _ _, hbw⟩
  | some bs =>
   rw [hq] at hP
   obtain ⟨v', he, ho⟩ := hP
   have e0 : opB o = bs := by unfold opB; rw [hq]; rfl
   rw [e0]
   exact ⟨v', _, he, ownsRow_base ho (by simp), hbw⟩)
 have HR : Hid ((w.alloc (.cells OC.toArray 26)).rangeAt w.heap.size 0 OC) := Lib.hid (range_new w _ OC)
 have HI : Hid ((Try.prog.info? 26).map (·.size) = some OC.length) := Lib.hid (by rw [hol]; exact infoOp)
 rw [hOC]
 clear hd hOC hol hon
 go_enter Try.func146, Try.ntmps146
 go_wp2_with (refine wpList_load_mid rfl 26 _ rfl w.heap.size 0 rfl OC _ HR.out Try.underlying26 rfl HI.out ?_)
 refine CB.out.mono ?_
 rintro e w1 ⟨v, em, rfl, ho, hb⟩
 have HO := Lib.hid (And.intro ho hb)
 obtain ⟨ao, cap, rfl, _⟩ := Rd.of_own ho
 clear ho hb
 go_wp2_with fail
 go_ret
 exact ⟨_, rfl, HO.out⟩
set_option maxRecDepth 100000 in
set_option maxHeartbeats 1600000 in
theorem shapeI_any (k : Int) (w : World) : Calls Try.prog 145 #[.int .i64 k] w fun e w' => e = .returned (.string (strB (shapeI k))) ∧ w = w' := by
 by_cases hc : k = 5 ∨ k = 4 ∨ k = 3 ∨ k = 2
 ·rcases hc with rfl | rfl | rfl | rfl
  all_goals
   go_enter Try.func145, Try.ntmps145
   go_wp2_with fail
   go_ret
   exact ⟨rfl, rfl⟩
 ·have HE : Hid (strB (shapeI k) = ⟨#[49, 52]⟩) := Lib.hid (by
   have : shapeI k = [49, 52] := by unfold shapeI; repeat rw [if_neg (by omega)]
   rw [this]; rfl)
  have g5 := bneI (show k ≠ 5 by omega)
  have g4 := bneI (show k ≠ 4 by omega)
  have g3 := bneI (show k ≠ 3 by omega)
  have g2 := bneI (show k ≠ 2 by omega)
  clear hc
  go_enter Try.func145, Try.ntmps145
  go_wp2_with fail
  go_ret
  exact ⟨by rw [HE.out]; rfl, rfl⟩
set_option maxRecDepth 100000 in
set_option maxHeartbeats 3200000 in
theorem shapeC_any (c k : Int) (w : World) : Calls Try.prog 104 #[.int .i32 c, .int .i64 k] w fun e w' => e = .returned (.string (strB (shapeC c k))) ∧ w = w' := by
 by_cases hc : c = 116 ∨ c = 108 ∨ c = 102 ∨ c = 109 ∨ c = 111 ∨ c = 98
 ·rcases hc with rfl | rfl | rfl | rfl | rfl | rfl
  all_goals
   go_enter Try.func104, Try.ntmps104
   go_wp2_with fail
   go_ret
   exact ⟨rfl, rfl⟩
 have g1 := bneI (show c ≠ 116 by omega)
 have g2 := bneI (show c ≠ 108 by omega)
 have g3 := bneI (show c ≠ 102 by omega)
 have g4 := bneI (show c ≠ 109 by omega)
 have g5 := bneI (show c ≠ 111 by omega)
 have g6 := bneI (show c ≠ 98 by omega)
 by_cases h7 : c = 105
 ·subst h7
  have CI : Hid (Calls Try.prog 145 #[.int .i64 k] w fun e w' => e = .returned (.string (strB (shapeC 105 k))) ∧ w = w') := Lib.hid (shapeI_any k w)
  clear hc g1 g2 g3 g4 g5 g6
  go_enter Try.func104, Try.ntmps104
  go_wp2_with fail
  refine CI.out.mono ?_
  rintro e w1 ⟨rfl, rfl⟩
  go_wp2_with fail
  go_ret
  exact ⟨rfl, rfl⟩
 ·have HE : Hid (strB (shapeC c k) = ⟨#[56]⟩) := Lib.hid (by
   have : shapeC c k = [56] := by unfold shapeC; repeat rw [if_neg (by omega)]
   rw [this]; rfl)
  have g7 := bneI h7
  clear hc h7
  go_enter Try.func104, Try.ntmps104
  go_wp2_with fail
  go_ret
  exact ⟨by rw [HE.out]; rfl, rfl⟩
set_option maxRecDepth 100000 in
set_option maxHeartbeats 3200000 in
theorem rshapeC_any (c : Int) (k : Int) (w : World) (h105 : c ≠ 105) : Calls Try.prog 128 #[.int .u8 c] w fun e w' => e = .returned (.string (strB (shapeC c k))) ∧ w = w' := by
 by_cases hc : c = 116 ∨ c = 108 ∨ c = 102 ∨ c = 109 ∨ c = 111 ∨ c = 98
 ·rcases hc with rfl | rfl | rfl | rfl | rfl | rfl
  all_goals
   go_enter Try.func128, Try.ntmps128
   go_wp2_with fail
   go_ret
   exact ⟨rfl, rfl⟩
 have g1 := bneI (show c ≠ 116 by omega)
 have g2 := bneI (show c ≠ 108 by omega)
 have g3 := bneI (show c ≠ 102 by omega)
 have g4 := bneI (show c ≠ 109 by omega)
 have g5 := bneI (show c ≠ 111 by omega)
 have g6 := bneI (show c ≠ 98 by omega)
 have HE : Hid (strB (shapeC c k) = ⟨#[56]⟩) := Lib.hid (by
  have : shapeC c k = [56] := by unfold shapeC; repeat rw [if_neg (by omega)]
  rw [this]; rfl)
 clear hc h105
 go_enter Try.func128, Try.ntmps128
 go_wp2_with fail
 go_ret
 exact ⟨by rw [HE.out]; rfl, rfl⟩
end Go.Proofs.Ytgkelbdgdhkeoaa
