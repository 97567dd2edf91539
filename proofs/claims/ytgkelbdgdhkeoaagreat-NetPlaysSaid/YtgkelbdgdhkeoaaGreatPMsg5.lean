/- Names of both, has, of messages; the states' May; noOp; Much, walked. -/
import Derived.Test.YtgkelbdgdhkeoaaGreatPMsg1
namespace Go.Proofs.YtgkelbdgdhkeoaaGreat
open Go.RowKit
set_option linter.unusedVariables false
set_option linter.unusedSimpArgs false
open Wire Cmd
def hasM (k : Int) (c : UInt8) : Bool := (nmM k).contains c
set_option maxRecDepth 100000 in
set_option maxHeartbeats 6400000 in
theorem namesM_any (k : Int) (w : World) : Calls Tryz.prog 38 #[.int .i64 k] w fun e w' => e = .returned (.string (strB (nmM k))) ∧ Below w.heap.size w w' := by
 by_cases h1 : k < 1
 ·rw [nmM_no (.inl h1)]
  go_enter Tryz.func38, Tryz.ntmps38
  go_wp2_with fail
  go_ret
  exact ⟨rfl, balloc (Below.refl _ _) _⟩
 by_cases h2 : 16 ≤ k
 ·rw [nmM_no (.inr h2)]
  go_enter Tryz.func38, Tryz.ntmps38
  go_wp2_with fail
  go_ret
  exact ⟨rfl, balloc (Below.refl _ _) _⟩
 have hc : k = 1 ∨ k = 2 ∨ k = 3 ∨ k = 4 ∨ k = 5 ∨ k = 6 ∨ k = 7 ∨ k = 8 ∨ k = 9 ∨ k = 10 ∨ k = 11 ∨ k = 12 ∨ k = 13 ∨ k = 14 ∨ k = 15 := by omega
 clear h1 h2
 rcases hc with rfl | rfl | rfl | rfl | rfl | rfl | rfl | rfl | rfl | rfl | rfl | rfl | rfl | rfl | rfl
 all_goals
  go_enter Tryz.func38, Tryz.ntmps38
  go_wp2_with fail
  go_ret
  exact ⟨rfl, balloc (Below.refl _ _) _⟩
set_option maxRecDepth 100000 in
set_option maxHeartbeats 6400000 in
theorem rnamesM_any (k : Int) (w : World) : Calls Tryz.prog 51 #[.int .i64 k] w fun e w' => e = .returned (.string (strB (nmM k))) ∧ w = w' := by
 by_cases hc : k = 1 ∨ k = 2 ∨ k = 3 ∨ k = 4 ∨ k = 5 ∨ k = 6 ∨ k = 7 ∨ k = 8 ∨ k = 9 ∨ k = 10 ∨ k = 11 ∨ k = 12 ∨ k = 13 ∨ k = 15
 ·rcases hc with rfl | rfl | rfl | rfl | rfl | rfl | rfl | rfl | rfl | rfl | rfl | rfl | rfl | rfl
  all_goals
   go_enter Tryz.func51, Tryz.ntmps51
   go_wp2_with fail
   go_ret
   exact ⟨rfl, rfl⟩
 ·have HE : Hid (strB (nmM k) = ⟨#[]⟩) := Lib.hid (by
   have : nmM k = [] := by unfold nmM; repeat rw [if_neg (by omega)]
   rw [this]; rfl)
  have g1 := bneI (show k ≠ 1 by omega)
  have g2 := bneI (show k ≠ 2 by omega)
  have g3 := bneI (show k ≠ 3 by omega)
  have g4 := bneI (show k ≠ 4 by omega)
  have g5 := bneI (show k ≠ 5 by omega)
  have g6 := bneI (show k ≠ 6 by omega)
  have g7 := bneI (show k ≠ 7 by omega)
  have g8 := bneI (show k ≠ 8 by omega)
  have g9 := bneI (show k ≠ 9 by omega)
  have g10 := bneI (show k ≠ 10 by omega)
  have g11 := bneI (show k ≠ 11 by omega)
  have g12 := bneI (show k ≠ 12 by omega)
  have g13 := bneI (show k ≠ 13 by omega)
  have g15 := bneI (show k ≠ 15 by omega)
  clear hc
  go_enter Tryz.func51, Tryz.ntmps51
  go_wp2_with fail
  go_ret
  exact ⟨by rw [HE.out]; rfl, rfl⟩
set_option maxRecDepth 100000 in
set_option maxHeartbeats 3200000 in
theorem hasM_any (k : Int) (c : UInt8) (w : World) : Calls Tryz.prog 43 #[.int .i64 k, .int .u8 (c.toNat : Int)] w fun e w' => e = .returned (.bool (hasM k c)) ∧ w = w' := by
 have CN := rnamesM_any k w
 have hsz : (strB (nmM k)).size ≤ 3 := by rw [← chs_len]; simp only [chs, strB]; simpa using nmM_len k
 have hcs : chs (strB (nmM k)) = nmM k := by simp [chs, strB]
 have HCS := Lib.hid hcs
 clear hcs
 generalize hs : strB (nmM k) = s at *
 clear hs
 go_enter Tryz.func43, Tryz.ntmps43
 go_wp2_with fail
 refine CN.mono ?_
 rintro e w1 ⟨rfl, rfl⟩
 clear CN
 go_wp2_with fail
 go_loop [6] (fun i => ∃ p : Nat, p ≤ s.size ∧ i = .int .i64 (p : Int) ∧ ((nmM k).take p).contains c = false) (fun i => s.size - (intOf i).toNat)
 case atStart => exact ⟨0, by omega, rfl, rfl⟩
 case round =>
  obtain ⟨p, hp, rfl, hno⟩ := hrel
  have HNO := Lib.hid hno
  clear hno
  by_cases hlt : p < s.size
  ·have hget := chs_get hlt
   rw [HCS.out] at hget
   have HGET := Lib.hid hget
   clear hget
   by_cases hc : (s[p]'hlt) = c
   ·have hq : (((s[p]'hlt).toNat : Int) == (c.toNat : Int)) = true := by rw [hc]; simp
    have HE : Hid (hasM k c = true) := Lib.hid (by
     unfold hasM
     rw [List.contains_iff_mem]
     have := List.mem_of_getElem? HGET.out
     rwa [hc] at this)
    clear hc
    go_wp2_with fail
    go_ret
    exact ⟨by rw [HE.out]; rfl, rfl⟩
   ·have hq : (((s[p]'hlt).toNat : Int) == (c.toNat : Int)) = false := by
     rw [beq_eq_false_iff_ne]; intro h; exact hc (UInt8.toNat_inj.1 (by omega))
    have HN : Hid (((nmM k).take (p + 1)).contains c = false) := Lib.hid (by
     rw [List.take_add_one, HGET.out]
     have h1 := HNO.out
     rw [Bool.eq_false_iff]
     rw [Bool.eq_false_iff, ne_eq, List.contains_iff_mem] at h1
     intro h
     rw [List.contains_iff_mem] at h
     rcases List.mem_append.1 h with h2 | h2
     ·exact h1 h2
     ·simp at h2; exact hc h2.symm)
    clear hc
    go_wp2_with fail
    go_round
    case rel => exact ⟨p + 1, by omega, by go_num, HN.out⟩
    case measure => simp [intOf]; omega
  ·obtain rfl : p = s.size := by omega
   have HE : Hid (hasM k c = false) := Lib.hid (by
    unfold hasM
    have h1 := HNO.out
    rwa [List.take_of_length_le (by rw [← HCS.out, chs_len]; exact Nat.le_refl _)] at h1)
   go_wp2_with fail
   go_ret
   exact ⟨by rw [HE.out]; rfl, rfl⟩
set_option maxRecDepth 100000 in
set_option maxHeartbeats 3200000 in
theorem mayS_any (x : St0) (w : World) : Calls Tryz.prog 90 #[.agg (stL x).toArray] w fun e w' => e = .returned (.bool (mayS x)) ∧ Below w.heap.size w w' := by
 have hb := balloc (Below.refl _ w) (.cells (stL x).toArray 67)
 have hM : mayS x = true ↔ MayS x := mayS_iff
 obtain ⟨a1, a2, a3, a4, a5, a6⟩ := x
 unfold stL at *
 unfold MayS at hM
 dsimp only at hb hM ⊢
 have HB := Lib.hid hb
 have HM := Lib.hid hM
 clear hb hM
 go_enter Tryz.func90, Tryz.ntmps90
 go_wp2_with fail
 all_goals
  go_ret
  refine ⟨ret_bool ?_, HB.out⟩
  rw [Bool.eq_iff_iff, HM.out]
  try simp only [Bool.and_eq_true, Bool.or_eq_true, decide_eq_true_eq, bne_iff_ne, beq_iff_eq, ne_eq, Bool.false_eq_true, false_iff, iff_false, true_or, or_true, true_iff, iff_true, true_and, and_true]
  omega
set_option maxRecDepth 100000 in
set_option maxHeartbeats 3200000 in
theorem rmayS_any (x : St0) (w : World) : Calls Tryz.prog 76 #[.agg (stL x).toArray] w fun e w' => e = .returned (.bool (mayS x)) ∧ Below w.heap.size w w' := by
 have hb := balloc (Below.refl _ w) (.cells (stL x).toArray 67)
 have hM : mayS x = true ↔ MayS x := mayS_iff
 obtain ⟨a1, a2, a3, a4, a5, a6⟩ := x
 unfold stL at *
 unfold MayS at hM
 dsimp only at hb hM ⊢
 have HB := Lib.hid hb
 have HM := Lib.hid hM
 clear hb hM
 go_enter Tryz.func76, Tryz.ntmps76
 go_wp2_with fail
 all_goals
  go_ret
  refine ⟨ret_bool ?_, HB.out⟩
  rw [Bool.eq_iff_iff, HM.out]
  try simp only [Bool.and_eq_true, Bool.or_eq_true, decide_eq_true_eq, bne_iff_ne, beq_iff_eq, ne_eq, Bool.false_eq_true, false_iff, iff_false, true_or, or_true, true_iff, iff_true, true_and, and_true]
  omega
set_option maxRecDepth 100000 in
set_option maxHeartbeats 1600000 in
theorem noOp_any (o : Op0) (sl : Value) (w : World) (hd : Rd w 1 sl o.data.length (bV o.data)) : Calls Tryz.prog 78 #[.agg (opL o sl).toArray] w fun e w' => e = .returned (.bool (opEq o op0)) ∧ Below w.heap.size w w' := by
 have HB : Hid (Below w.heap.size w (w.alloc (.cells (opL o sl).toArray 70))) := Lib.hid (balloc (Below.refl _ _) _)
 have CS : Hid (Calls Tryz.prog 98 #[.agg (opL o sl).toArray, .agg #[.int .i64 0, .int .u64 0, .int .u64 0, .int .i64 0, .int .i64 0, .int .i64 0, .slice none 0 0]] (w.alloc (.cells (opL o sl).toArray 70)) fun e w' => e = .returned (.bool (opEq o op0)) ∧ Below (w.alloc (.cells (opL o sl).toArray 70)).heap.size (w.alloc (.cells (opL o sl).toArray 70)) w') := Lib.hid (rsame_any o op0 sl (.slice none 0 0) _ (hd.below HB.out) (Rd.of_own (World.ownsRow_nil _ 0 5 1)))
 generalize opEq o op0 = q at *
 obtain ⟨ao, cap, rfl, _⟩ := hd
 unfold opL at *
 go_enter Tryz.func78, Tryz.ntmps78
 go_wp2_with fail
 refine CS.out.mono ?_
 rintro e w1 ⟨rfl, hb1⟩
 have HF := Lib.hid (bthen HB.out hb1)
 clear hb1
 go_wp2_with fail
 go_ret
 exact ⟨rfl, HF.out⟩
end Go.Proofs.YtgkelbdgdhkeoaaGreat
