/- RepairSplits: for every n the law returns true: in how many nodes keys are parted is what the reference deals out one by one; each has 6 keys at most, and 3 at least where there are more than 6. -/
import Derived.Test.YtgokaoajpidhnaaSplit2
namespace Go.Proofs.Ytgokaoajpidhnaa
open Go.RowKit

theorem rd_lit1 (w : World) (a : Value) (t : TypeId) : Rd (w.alloc (.cells #[a] t)) 1 (.slice (some ⟨w.heap.size, 0, none⟩) 1 1) 1 [a] :=
  Rd.of_own (World.ownsRow_lit (base := 0) w #[a] 1 (Nat.zero_le _) (by decide) rfl)
theorem rd_lit2 (w : World) (a b : Value) (t : TypeId) : Rd (w.alloc (.cells #[a, b] t)) 1 (.slice (some ⟨w.heap.size, 0, none⟩) 2 2) 2 [a, b] :=
  Rd.of_own (World.ownsRow_lit (base := 0) w #[a, b] 2 (Nat.zero_le _) (by decide) rfl)
theorem rd_lit3 (w : World) (a b c : Value) (t : TypeId) : Rd (w.alloc (.cells #[a, b, c] t)) 1 (.slice (some ⟨w.heap.size, 0, none⟩) 3 3) 3 [a, b, c] :=
  Rd.of_own (World.ownsRow_lit (base := 0) w #[a, b, c] 3 (Nat.zero_le _) (by decide) rfl)

set_option maxRecDepth 100000 in
set_option maxHeartbeats 1000000 in
theorem known31 (w : World) : Calls Try.prog 16 #[] w fun e w' => e = .returned (.bool true) ∧ Below w.heap.size w w' := by
  go_enter Try.func16, Try.ntmps16
  go_wp2_with fail
  refine (split_any 5 _ (by omega) (by omega)).mono ?_
  rintro e w1 ⟨v1, rfl, ho1, hb1⟩
  have hr1 := Rd.of_own (ho1.alloc (.cells #[.int .i64 5] 3))
  have hl1 := rd_lit1 w1 (.int .i64 5) 3
  go_wp2_with fail
  refine (sameInts_any _ _ _ _ _ [5] _ hr1 hl1).mono ?_
  rintro e w2 ⟨rfl, hb2⟩
  have hd : decide (splitL 5 ((5 + 5) / 6) ((5 + 5) / 6 : Int).toNat = [5]) = true := by decide
  rw [hd]
  clear hr1 hl1
  go_wp2_with fail
  refine (split_any 7 _ (by omega) (by omega)).mono ?_
  rintro e w3 ⟨v3, rfl, ho3, hb3⟩
  have hr1 := Rd.of_own (ho3.alloc (.cells #[.int .i64 4, .int .i64 3] 3))
  have hl1 := rd_lit2 w3 (.int .i64 4) (.int .i64 3) 3
  go_wp2_with fail
  refine (sameInts_any _ _ _ _ _ [4, 3] _ hr1 hl1).mono ?_
  rintro e w4 ⟨rfl, hb4⟩
  have hd : decide (splitL 7 ((7 + 5) / 6) ((7 + 5) / 6 : Int).toNat = [4, 3]) = true := by decide
  rw [hd]
  clear hr1 hl1
  go_wp2_with fail
  refine (split_any 13 _ (by omega) (by omega)).mono ?_
  rintro e w5 ⟨v5, rfl, ho5, hb5⟩
  have hr1 := Rd.of_own (ho5.alloc (.cells #[.int .i64 5, .int .i64 4, .int .i64 4] 3))
  have hl1 := rd_lit3 w5 (.int .i64 5) (.int .i64 4) (.int .i64 4) 3
  go_wp2_with fail
  refine (sameInts_any _ _ _ _ _ [5, 4, 4] _ hr1 hl1).mono ?_
  rintro e w6 ⟨rfl, hb6⟩
  have hd : decide (splitL 13 ((13 + 5) / 6) ((13 + 5) / 6 : Int).toNat = [5, 4, 4]) = true := by decide
  rw [hd]
  clear hr1 hl1
  go_wp2_with fail
  go_ret
  exact ⟨rfl, bthen (balloc (bthen (bthen (balloc (bthen (bthen (balloc hb1 _) hb2) hb3) _) hb4) hb5) _) hb6⟩

def splitsPost (w : World) (e : Ending) (w' : World) : Prop := e = .returned (.bool true) ∧ Below w.heap.size w w'

theorem splitL_bounds (n : Int) (h1 : 1 ≤ n) (h2 : n ≤ 10000) : ∀ x ∈ splitL n ((n + 5) / 6) ((n + 5) / 6).toNat, 1 ≤ x ∧ x ≤ 6 ∧ (6 < n → 3 ≤ x) := by
  intro x hx
  obtain ⟨k, hk⟩ : ∃ k, k = (n + 5) / 6 := ⟨_, rfl⟩
  rw [← hk] at hx
  have hk1 : 1 ≤ k := by omega
  have hk6 : n ≤ 6 * k := by omega
  have hk5 : 6 * k ≤ n + 5 := by omega
  simp only [splitL, List.mem_map, List.mem_range] at hx
  obtain ⟨i, hi, rfl⟩ := hx
  have hd := Int.mul_ediv_add_emod n k
  have hm0 := Int.emod_nonneg n (show k ≠ 0 by omega)
  have hm1 := Int.emod_lt_of_pos n (show 0 < k by omega)
  clear hk
  generalize n / k = q at *
  generalize n % k = r at *
  have q0 : 1 ≤ q := by
    by_cases h : 1 ≤ q
    · exact h
    · exfalso
      have h0 : q ≤ 0 := by omega
      have : k * q ≤ 0 := Int.mul_nonpos_of_nonneg_of_nonpos (by omega) h0
      omega
  have q6 : q ≤ 6 := by
    by_cases h : q ≤ 6
    · exact h
    · exfalso
      have : k * 7 ≤ k * q := Int.mul_le_mul_of_nonneg_left (by omega) (by omega)
      omega
  have q6r : q = 6 → r = 0 := by
    intro h; subst h; omega
  have q3 : 6 < n → 3 ≤ q := by
    intro hn
    by_cases h : 3 ≤ q
    · exact h
    · exfalso
      have : k * q ≤ k * 2 := Int.mul_le_mul_of_nonneg_left (by omega) (by omega)
      omega
  split
  · refine ⟨by omega, ?_, fun h => by have := q3 h; omega⟩
    by_cases e : q = 6
    · have := q6r e; omega
    · omega
  · exact ⟨by omega, by omega, fun h => by have := q3 h; omega⟩

theorem splitL_sum (n : Int) (h1 : 1 ≤ n) : (splitL n ((n + 5) / 6) ((n + 5) / 6).toNat).sum = n := by
  obtain ⟨k, hk⟩ : ∃ k, k = (n + 5) / 6 := ⟨_, rfl⟩
  rw [← hk]
  have hk1 : 1 ≤ k := by omega
  have key : ∀ m : Nat, (splitL n k m).sum = m * (n / k) + min (m : Int) (n % k) := by
    intro m
    induction m with
    | zero => have := Int.emod_nonneg n (show k ≠ 0 by omega); simp [splitL]; omega
    | succ m ih =>
      rw [splitL_succ, List.sum_append, ih]
      have e : ((m + 1 : Nat) : Int) * (n / k) = m * (n / k) + n / k := by rw [Int.natCast_add, Int.add_mul]; simp
      rw [e]
      simp only [List.sum_cons, List.sum_nil]
      split <;> omega
  rw [key]
  have hd := Int.mul_ediv_add_emod n k
  have hm1 := Int.emod_lt_of_pos n (show 0 < k by omega)
  have hc : ((k.toNat : Nat) : Int) = k := by omega
  rw [hc]
  omega

theorem sum_take_le (xs : List Int) (k : Nat) (h : ∀ x ∈ xs, 1 ≤ x ∧ x ≤ 6) : 0 ≤ (xs.take k).sum ∧ (xs.take k).sum ≤ 6 * xs.length := by
  induction xs generalizing k with
  | nil => simp
  | cons x xs ih =>
    have h1 := h x (by simp)
    cases k with
    | zero => simp; omega
    | succ k =>
      have h2 := ih k (fun y hy => h y (by simp [hy]))
      simp only [List.take_succ_cons, List.sum_cons, List.length_cons]
      omega

/-- All that repair.Split gives. -/
def splitN (n : Int) : List Int := splitL n ((n + 5) / 6) ((n + 5) / 6).toNat

theorem splitN_nil (n : Int) (h : n < 1) : splitN n = [] := by
  have : ((n + 5) / 6).toNat = 0 := by omega
  simp [splitN, this, splitL]

set_option maxRecDepth 100000 in
set_option maxHeartbeats 400000 in
theorem split_all (n : Int) (w : World) (h2 : n ≤ 10000000000) (h3 : -9223372036854775808 ≤ n) :
    Calls Try.prog 17 #[.int .i64 n] w fun e w' => ∃ v, e = .returned v ∧
      w'.ownsRow w.heap.size 3 1 v (splitN n).length ((splitN n).map (Value.int .i64)) ∧ Below w.heap.size w w' := by
  by_cases h1 : 1 ≤ n
  · refine (split_any n w h1 h2).mono ?_
    rintro e w' ⟨v, he, ho, hb⟩
    exact ⟨v, he, by simpa [splitN, splitL_len] using ho, hb⟩
  · have hn := Lib.hid (splitN_nil n (by omega))
    go_enter Try.func17, Try.ntmps17
    go_wp2
    go_ret
    exact ⟨_, rfl, by rw [hn.out]; exact World.ownsRow_nil _ _ _ _, Below.refl _ _⟩

theorem refSplit_all (n : Int) (w : World) (h2 : n ≤ 10000000000) (h1 : 0 ≤ n) :
    Calls Try.prog 19 #[.int .i64 n] w fun e w' => ∃ v, e = .returned v ∧
      w'.ownsRow w.heap.size 3 1 v (splitN n).length ((splitN n).map (Value.int .i64)) ∧ Below w.heap.size w w' := by
  obtain ⟨m, rfl⟩ := Int.eq_ofNat_of_zero_le h1
  refine (refSplit_any m w (by omega)).mono ?_
  rintro e w' ⟨v, he, ho, hb⟩
  have e1 : (((m : Int) + 5) / 6).toNat = (m + 5) / 6 := by omega
  have e2 : (((m : Int) + 5) / 6) = (((m + 5) / 6 : Nat) : Int) := by omega
  refine ⟨v, he, ?_, hb⟩
  unfold splitN
  rw [e1, e2, splitL_len]
  exact ho

theorem splitN_sum (n : Int) : (splitN n).sum = max n 0 := by
  by_cases h : 1 ≤ n
  · rw [splitN, splitL_sum n h]; omega
  · rw [splitN_nil n (by omega)]; simp; omega
theorem splitN_max (n : Int) : splitN (max n 0) = splitN n := by
  by_cases h : 1 ≤ n
  · rw [Int.max_eq_left (by omega)]
  · rw [splitN_nil n (by omega), splitN_nil _ (by omega)]
theorem splitN_len (n : Int) : (splitN n).length = ((n + 5) / 6).toNat := splitL_len _ _ _
theorem splitN_bounds (n : Int) (h2 : n ≤ 10000) : ∀ x ∈ splitN n, 1 ≤ x ∧ x ≤ 6 ∧ (6 < n → 3 ≤ x) := by
  by_cases h : 1 ≤ n
  · exact splitL_bounds n h h2
  · rw [splitN_nil n (by omega)]; simp

set_option maxRecDepth 100000 in
set_option maxHeartbeats 1000000 in
theorem splits_walk (n : Int) (w : World) (h3 : -9223372036854775808 ≤ n) (h4 : n ≤ 9223372036854775807) :
    Calls Try.prog 3 #[.int .i64 n] w (splitsPost w) := by
  by_cases hbig : 10000 < n
  · go_enter Try.func3, Try.ntmps3
    go_wp2_with (go_at_call 16; refine (known31 _).mono ?_; rintro e w1 ⟨rfl, hb1⟩)
    go_ret
    exact ⟨rfl, hb1⟩
  · go_enter Try.func3, Try.ntmps3
    go_wp2_with fail
    refine (split_all n _ (by omega) h3).mono ?_
    rintro e w1 ⟨v, rfl, ho1, hb1⟩
    have hrd := Rd.of_own ho1
    have hbd := Lib.hid (splitN_bounds n (by omega))
    have hlen : (splitN n).length ≤ 2000 := by rw [splitN_len]; omega
    have hsum := Lib.hid (splitN_sum n)
    obtain ⟨xs, hxs⟩ : ∃ xs, xs = splitN n := ⟨_, rfl⟩
    rw [← hxs] at hrd hbd hlen hsum
    have HXS := Lib.hid hxs
    clear hxs
    obtain ⟨ao, cap, rfl, hl, hm, hc⟩ := hrd
    go_wp2_with fail
    go_loop [4, 5] (fun s i => ∃ k : Nat, k ≤ xs.length ∧ i = .int .i64 k ∧ s = .int .i64 (xs.take k).sum) (fun _ i => xs.length - (intOf i).toNat)
    case atStart => exact ⟨0, by omega, rfl, rfl⟩
    case round =>
      obtain ⟨k, hk, rfl, rfl⟩ := hrel
      by_cases hlt : k < xs.length
      · obtain ⟨x, hx⟩ : ∃ x, xs[k]? = some x := ⟨_, List.getElem?_eq_getElem hlt⟩
        obtain ⟨b, off, rfl, hb, hcx⟩ := hc k (.int .i64 x) (by simp [hx])
        obtain ⟨hx1, hx2, hx3⟩ := hbd.out x (List.mem_of_getElem? hx)
        have hsk := sum_take_le xs k (fun x hx => ⟨(hbd.out x hx).1, (hbd.out x hx).2.1⟩)
        obtain ⟨hs1, hs2⟩ := hsk
        have hst : (xs.take (k + 1)).sum = (xs.take k).sum + x := by rw [List.take_add_one, hx]; simp
        have HST := Lib.hid hst
        clear hst hx hc
        by_cases h6 : 6 < n
        all_goals
          go_wp2_with fail
          go_round
          case rel => exact ⟨k + 1, by omega, by go_num, by rw [HST.out]⟩
          case measure => simp [intOf]; omega
      · obtain rfl : k = xs.length := by omega
        have hrd2 := Rd.of_own ho1
        rw [List.take_of_length_le (Nat.le_refl _)]
        by_cases hn : 0 ≤ n
        · have hsn : (xs.sum == n) = true := by have := hsum.out; simp; omega
          go_wp2_with fail
          refine (refSplit_all n _ (by omega) hn).mono ?_
          rintro e w2 ⟨v2, rfl, ho2, hb2⟩
          go_wp2_with fail
          refine (sameInts_any _ _ _ _ _ _ _ (hrd2.below hb2) (Rd.of_own ho2)).mono ?_
          rintro e w3 ⟨rfl, hb3⟩
          rw [decide_eq_true rfl]
          go_wp2_with fail
          refine (known31 _).mono ?_
          rintro e w4 ⟨rfl, hb4⟩
          go_wp2_with fail
          go_ret
          exact ⟨rfl, bthen (bthen (bthen hb1 hb2) hb3) hb4⟩
        · have hsn : (xs.sum == 0) = true := by have := hsum.out; simp; omega
          go_wp2_with fail
          refine (refSplit_all 0 _ (by omega) (by omega)).mono ?_
          rintro e w2 ⟨v2, rfl, ho2, hb2⟩
          rw [splitN_nil n (by omega)] at hrd2
          rw [splitN_nil 0 (by omega)] at ho2
          go_wp2_with fail
          refine (sameInts_any _ _ _ _ _ _ _ (hrd2.below hb2) (Rd.of_own ho2)).mono ?_
          rintro e w3 ⟨rfl, hb3⟩
          rw [decide_eq_true rfl]
          go_wp2_with fail
          refine (known31 _).mono ?_
          rintro e w4 ⟨rfl, hb4⟩
          go_wp2_with fail
          go_ret
          exact ⟨rfl, bthen (bthen (bthen hb1 hb2) hb3) hb4⟩
end Go.Proofs.Ytgokaoajpidhnaa
