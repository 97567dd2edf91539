/- What clients ask: Same, within, walked. -/
import Derived.Test.YtgkelbdgdhkeoaaCmd1
namespace Go.Proofs.Ytgkelbdgdhkeoaa
open Go.RowKit
set_option linter.unusedVariables false
set_option linter.unusedSimpArgs false
open Wire Cmd

theorem beqI {a b : Int} (h : a = b) : (a == b) = true := by rw [h]; simp
theorem bneI {a b : Int} (h : a ≠ b) : (a == b) = false := by simpa using h
theorem eqO_false {a b : Op0} (h : a ≠ b) : decide (a = b) = false := decide_eq_false h

set_option maxRecDepth 100000 in
set_option maxHeartbeats 3200000 in
theorem same_any (a b : Op0) (sa sb : Value) (w : World) (ha : Rd w 1 sa a.data.length (bV a.data)) (hb : Rd w 1 sb b.data.length (bV b.data)) :
    Calls Try.prog 23 #[.agg (oC a sa), .agg (oC b sb)] w fun e w' => e = .returned (.bool (opEq a b)) ∧ Below w.heap.size w w' := by
  obtain ⟨k1, v1, t1, s1, p1, c1, d1⟩ := a
  obtain ⟨k2, v2, t2, s2, p2, c2, d2⟩ := b
  unfold oC
  have HA := Lib.hid ha
  have HB := Lib.hid hb
  dsimp only at ha hb ⊢
  clear ha hb
  have HB2 : Hid (Below w.heap.size w ((w.alloc (.cells #[.int .i64 k1, .int .u64 (v1 : Int), .int .u64 (t1 : Int), .int .i64 s1, .int .i64 p1, .int .i64 c1, sa] 26)).alloc (.cells #[.int .i64 k2, .int .u64 (v2 : Int), .int .u64 (t2 : Int), .int .i64 s2, .int .i64 p2, .int .i64 c2, sb] 26))) := Lib.hid (balloc (balloc (Below.refl _ _) _) _)
  by_cases h1 : k1 = k2
  rotate_left
  · have HE := Lib.hid (opEq_no (fun e : (⟨k1, v1, t1, s1, p1, c1, d1⟩ : Op0) = ⟨k2, v2, t2, s2, p2, c2, d2⟩ => h1 (by injection e)))
    have g1 := bneI h1
    clear h1
    go_enter Try.func23, Try.ntmps23
    go_wp2_with fail
    go_ret
    exact ⟨by rw [HE.out]; rfl, HB2.out⟩
  subst h1
  have g1 := beqI (rfl : k1 = k1)
  by_cases h2 : v1 = v2
  rotate_left
  · have HE := Lib.hid (opEq_no (fun e : (⟨k1, v1, t1, s1, p1, c1, d1⟩ : Op0) = ⟨k1, v2, t2, s2, p2, c2, d2⟩ => h2 (by injection e)))
    have g2 : ((v1 : Int) == (v2 : Int)) = false := bneI (by omega)
    clear h2
    go_enter Try.func23, Try.ntmps23
    go_wp2_with fail
    go_ret
    exact ⟨by rw [HE.out]; rfl, HB2.out⟩
  subst h2
  have g2 := beqI (rfl : (v1 : Int) = v1)
  by_cases h3 : t1 = t2
  rotate_left
  · have HE := Lib.hid (opEq_no (fun e : (⟨k1, v1, t1, s1, p1, c1, d1⟩ : Op0) = ⟨k1, v1, t2, s2, p2, c2, d2⟩ => h3 (by injection e)))
    have g3 : ((t1 : Int) == (t2 : Int)) = false := bneI (by omega)
    clear h3
    go_enter Try.func23, Try.ntmps23
    go_wp2_with fail
    go_ret
    exact ⟨by rw [HE.out]; rfl, HB2.out⟩
  subst h3
  have g3 := beqI (rfl : (t1 : Int) = t1)
  by_cases h4 : s1 = s2
  rotate_left
  · have HE := Lib.hid (opEq_no (fun e : (⟨k1, v1, t1, s1, p1, c1, d1⟩ : Op0) = ⟨k1, v1, t1, s2, p2, c2, d2⟩ => h4 (by injection e)))
    have g4 := bneI h4
    clear h4
    go_enter Try.func23, Try.ntmps23
    go_wp2_with fail
    go_ret
    exact ⟨by rw [HE.out]; rfl, HB2.out⟩
  subst h4
  have g4 := beqI (rfl : s1 = s1)
  by_cases h5 : p1 = p2
  rotate_left
  · have HE := Lib.hid (opEq_no (fun e : (⟨k1, v1, t1, s1, p1, c1, d1⟩ : Op0) = ⟨k1, v1, t1, s1, p2, c2, d2⟩ => h5 (by injection e)))
    have g5 := bneI h5
    clear h5
    go_enter Try.func23, Try.ntmps23
    go_wp2_with fail
    go_ret
    exact ⟨by rw [HE.out]; rfl, HB2.out⟩
  subst h5
  have g5 := beqI (rfl : p1 = p1)
  by_cases h6 : c1 = c2
  rotate_left
  · have HE := Lib.hid (opEq_no (fun e : (⟨k1, v1, t1, s1, p1, c1, d1⟩ : Op0) = ⟨k1, v1, t1, s1, p1, c2, d2⟩ => h6 (by injection e)))
    have g6 := bneI h6
    clear h6
    go_enter Try.func23, Try.ntmps23
    go_wp2_with fail
    go_ret
    exact ⟨by rw [HE.out]; rfl, HB2.out⟩
  subst h6
  have g6 := beqI (rfl : c1 = c1)
  have CE := equal8 sa sb _ _ d1 d2 _ (HA.out.below HB2.out) (HB.out.below HB2.out)
  have HE : Hid ((d1 == d2) = opEq ⟨k1, v1, t1, s1, p1, c1, d1⟩ ⟨k1, v1, t1, s1, p1, c1, d2⟩) := Lib.hid (by
    by_cases h : d1 = d2
    · subst h; rw [opEq_yes rfl]; simp
    · rw [beq_eq_false_iff_ne.2 h, opEq_no (fun e : (⟨k1, v1, t1, s1, p1, c1, d1⟩ : Op0) = ⟨k1, v1, t1, s1, p1, c1, d2⟩ => h (by injection e))])
  obtain ⟨aoa, ca, rfl, _⟩ := HA.out
  obtain ⟨aob, cb, rfl, _⟩ := HB.out
  go_enter Try.func23, Try.ntmps23
  go_wp2_with fail
  refine CE.mono ?_
  rintro e w1 ⟨rfl, hb1⟩
  have HB1 := Lib.hid (bthen HB2.out hb1)
  clear hb1
  go_wp2_with fail
  go_ret
  exact ⟨by rw [← HE.out]; rfl, HB1.out⟩

theorem ret_bool {a b : Bool} (h : a = b) : Ending.returned (.bool a) = .returned (.bool b) := by rw [h]
set_option maxRecDepth 100000 in
set_option maxHeartbeats 3200000 in
theorem within_any (c : Int) (o : Op0) (sl : Value) (w : World) (hd : Rd w 1 sl o.data.length (bV o.data)) :
    Calls Try.prog 88 #[.int .i32 c, .agg (oC o sl)] w fun e w' => e = .returned (.bool (wIn c o)) ∧ Below w.heap.size w w' := by
  obtain ⟨k1, v1, t1, s1, p1, c1, d1⟩ := o
  have hlen : d1.length ≤ 9223372036854775807 := by obtain ⟨_, _, _, _, hm, _⟩ := hd; unfold maxLen at hm; exact hm
  obtain ⟨ao, cap, rfl, _⟩ := hd
  have HB2 : Hid (Below w.heap.size w (w.alloc (.cells #[.int .i64 k1, .int .u64 (v1 : Int), .int .u64 (t1 : Int), .int .i64 s1, .int .i64 p1, .int .i64 c1, .slice ao d1.length cap] 26))) := Lib.hid (balloc (Below.refl _ _) _)
  unfold oC wIn
  dsimp only
  by_cases h1 : c = 118
  · subst h1
    rw [if_pos rfl]
    go_enter Try.func88, Try.ntmps88
    go_wp2_with fail
    all_goals
      go_ret
      refine ⟨ret_bool ?_, HB2.out⟩
      rw [Bool.eq_iff_iff]
      try simp only [Bool.and_eq_true, decide_eq_true_eq, bne_iff_ne, beq_iff_eq, ne_eq, Bool.false_eq_true]
      try (constructor <;> intro h <;> first | exact h.elim | omega)
  rw [if_neg h1]
  have g1 := bneI h1
  by_cases h2 : c = 116
  · subst h2
    rw [if_pos rfl]
    clear h1 g1
    by_cases k0 : 1 ≤ t1
    · by_cases k1' : t1 < 4294967296
      · by_cases k2' : t1 = v1
        · have gq : ((t1 : Int) != (v1 : Int)) = false := by rw [k2']; simp
          have HQ : Hid ((t1 != v1) = false) := Lib.hid (by rw [k2']; simp)
          have i0 : (1 : Int) ≤ (t1 : Int) := by omega
          have i1 : (t1 : Int) < 4294967296 := by omega
          rw [HQ.out, Bool.and_false]
          clear k2' k0 k1'
          go_enter Try.func88, Try.ntmps88
          go_wp2_with fail
          go_ret
          exact ⟨rfl, HB2.out⟩
        · have gq : ((t1 : Int) != (v1 : Int)) = true := by rw [bne_iff_ne]; omega
          have HQ : Hid ((t1 != v1) = true) := Lib.hid (by rw [bne_iff_ne]; exact k2')
          have i0 : (1 : Int) ≤ (t1 : Int) := by omega
          have i1 : (t1 : Int) < 4294967296 := by omega
          rw [HQ.out, Bool.and_true, decide_eq_true k0, decide_eq_true k1']
          clear k2' k0 k1'
          go_enter Try.func88, Try.ntmps88
          go_wp2_with fail
          go_ret
          exact ⟨rfl, HB2.out⟩
      · rw [decide_eq_false k1', Bool.and_false, Bool.false_and]
        have i0 : (1 : Int) ≤ (t1 : Int) := by omega
        have i1 : ¬ ((t1 : Int) < 4294967296) := by omega
        have i2 : decide ((t1 : Int) < 4294967296) = false := decide_eq_false i1
        clear k0 k1'
        go_enter Try.func88, Try.ntmps88
        go_wp2_with fail
        go_ret
        exact ⟨rfl, HB2.out⟩
    · rw [decide_eq_false k0, Bool.false_and, Bool.false_and]
      have i0 : ¬ ((1 : Int) ≤ (t1 : Int)) := by omega
      clear k0
      go_enter Try.func88, Try.ntmps88
      go_wp2_with fail
      go_ret
      exact ⟨rfl, HB2.out⟩
  rw [if_neg h2]
  have g2 := bneI h2
  by_cases h3 : c = 115
  · subst h3
    rw [if_pos rfl]
    clear h1 g1 h2 g2
    go_enter Try.func88, Try.ntmps88
    go_wp2_with fail
    all_goals
      go_ret
      refine ⟨ret_bool ?_, HB2.out⟩
      rw [Bool.eq_iff_iff]
      try simp only [Bool.and_eq_true, decide_eq_true_eq, bne_iff_ne, beq_iff_eq, ne_eq, Bool.false_eq_true]
      try (constructor <;> intro h <;> first | exact h.elim | omega)
  rw [if_neg h3]
  have g3 := bneI h3
  by_cases h4 : c = 97
  · subst h4
    rw [if_pos rfl]
    clear h1 g1 h2 g2 h3 g3
    go_enter Try.func88, Try.ntmps88
    go_wp2_with fail
    all_goals
      go_ret
      refine ⟨ret_bool ?_, HB2.out⟩
      rw [Bool.eq_iff_iff]
      try simp only [Bool.and_eq_true, decide_eq_true_eq, bne_iff_ne, beq_iff_eq, ne_eq, Bool.false_eq_true]
      try (constructor <;> intro h <;> first | exact h.elim | omega)
  rw [if_neg h4]
  have g4 := bneI h4
  by_cases h5 : c = 99
  · subst h5
    rw [if_pos rfl]
    clear h1 g1 h2 g2 h3 g3 h4 g4
    go_enter Try.func88, Try.ntmps88
    go_wp2_with fail
    all_goals
      go_ret
      refine ⟨ret_bool ?_, HB2.out⟩
      rw [Bool.eq_iff_iff]
      try simp only [Bool.and_eq_true, decide_eq_true_eq, bne_iff_ne, beq_iff_eq, ne_eq, Bool.false_eq_true]
      try (constructor <;> intro h <;> first | exact h.elim | omega)
  rw [if_neg h5]
  have g5 := bneI h5
  clear h1 h2 h3 h4 h5
  generalize d1.length = n at *
  go_enter Try.func88, Try.ntmps88
  go_wp2_with fail
  all_goals
    go_ret
    refine ⟨ret_bool ?_, HB2.out⟩
    rw [Bool.eq_iff_iff]
    try simp only [Bool.and_eq_true, decide_eq_true_eq, bne_iff_ne, beq_iff_eq, ne_eq, Bool.false_eq_true]
    try (constructor <;> intro h <;> first | exact h.elim | omega)
end Go.Proofs.Ytgkelbdgdhkeoaa
