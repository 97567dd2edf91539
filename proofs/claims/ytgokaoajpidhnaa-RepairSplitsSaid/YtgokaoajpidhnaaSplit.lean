/- The number of keys that each node of a row has: repair.Split, the reference's Split and SameInts, walked. -/
import Derived.Test.YtgokaoajpidhnaaProg
import Derived.Test.YtgokaoajpidhnaaBase
namespace Go.Proofs.Ytgokaoajpidhnaa
open Go.RowKit

/-- How many keys each node has. -/
def splitL (n k : Int) (m : Nat) : List Int := (List.range m).map fun (i : Nat) => n / k + if (i : Int) < n % k then 1 else 0

theorem splitL_succ (n k : Int) (m : Nat) : splitL n k (m + 1) = splitL n k m ++ [n / k + if (m : Int) < n % k then 1 else 0] := by
  simp [splitL, List.range_succ]
theorem splitL_len (n k : Int) (m : Nat) : (splitL n k m).length = m := by simp [splitL]

theorem infoInt : (Try.prog.info? 3).map (fun i => (i.zero, i.size, i.bytes)) = some (some (.int .i64 0), 1, 8) := by kernel_rfl

set_option maxRecDepth 100000 in
set_option maxHeartbeats 400000 in
theorem split_any (n : Int) (w : World) (h1 : 1 ≤ n) (h2 : n ≤ 10000000000) :
    Calls Try.prog 17 #[.int .i64 n] w fun e w' => ∃ v, e = .returned v ∧
      w'.ownsRow w.heap.size 3 1 v ((n + 5) / 6).toNat ((splitL n ((n + 5) / 6) ((n + 5) / 6).toNat).map (Value.int .i64)) ∧ Below w.heap.size w w' := by
  go_enter Try.func17, Try.ntmps17
  go_wp2
  obtain ⟨k, hk⟩ : ∃ k, k = (n + 5) / 6 := ⟨_, rfl⟩
  have hk' : (n + 6 - 1) / 6 = k := by omega
  rw [hk']
  have hk1 : 1 ≤ k := by omega
  have hk2 : k ≤ n := by omega
  have HK := Lib.hid hk
  clear hk hk'
  go_loopw [2, 4, 5, 13] (fun v _ _ i wr => ∃ m : Nat, (m : Int) ≤ k ∧ i = .int .i64 m ∧ wr.ownsRow w.heap.size 3 1 v m ((splitL n k m).map (Value.int .i64)) ∧ Below w.heap.size w wr)
    (fun _ _ _ i _ => (k - intOf i).toNat)
  case atStart => exact ⟨0, by omega, rfl, World.ownsRow_nil _ _ _ _, Below.refl _ _⟩
  case round =>
    obtain ⟨m, hm, rfl, hown, hbel⟩ := hrel
    have hq1 : 0 ≤ n / k := Int.ediv_nonneg (by omega) (by omega)
    have hq2 : n / k ≤ n := Int.ediv_le_self _ (by omega)
    have hws := hbel.size
    by_cases hlt : (m : Int) < k
    · have hss := Lib.hid (splitL_succ n k m)
      by_cases hc : (m : Int) < n % k
      all_goals
        go_wp2_with (at_builtin; go_must (refine wpList_app rfl _ _ 23 rfl w.heap.size 3 _ 1 8 Try.underlying23 infoInt rfl (by decide) (by decide) _ m _ rfl hown rfl rfl (by simp [Value.oneCell']) (by omega) hws ?_); intro v' w1 ho1 hb1 _ _)
        go_roundw
        case rel =>
          refine ⟨m + 1, by omega, by go_num, ?_, hbel.trans hb1⟩
          rw [hss.out]
          simpa [hc] using ho1
        case measure => simp [intOf]; omega
    · go_wp2
      obtain rfl : k = m := by omega
      go_ret
      refine ⟨_, rfl, ?_, hbel⟩
      rw [← HK.out]
      simpa using hown

theorem ints_inj {k : IntKind} {xs ys : List Int} (h : xs.map (Value.int k) = ys.map (Value.int k)) : xs = ys := by
  induction xs generalizing ys with
  | nil => cases ys <;> simp_all
  | cons x xs ih =>
    cases ys with
    | nil => simp at h
    | cons y ys =>
      simp only [List.map_cons, List.cons.injEq, Value.int.injEq, true_and] at h
      rw [h.1, ih h.2]

set_option maxRecDepth 100000 in
set_option maxHeartbeats 400000 in
theorem sameInts_any (u v : Value) (n m : Nat) (xs ys : List Int) (w : World) (hu : Rd w 1 u n (xs.map (Value.int .i64))) (hv : Rd w 1 v m (ys.map (Value.int .i64))) :
    Calls Try.prog 18 #[u, v] w fun e w' => e = .returned (.bool (decide (xs = ys))) ∧ Below w.heap.size w w' := by
  obtain ⟨ao, ca, rfl, hl, hm, hc⟩ := hu
  obtain ⟨bo, cb, rfl, hl', hm', hc'⟩ := hv
  simp only [List.length_map, Nat.mul_one] at hl hl'
  unfold maxLen at hm hm'
  by_cases hnm : n = m
  · subst hnm
    go_enter Try.func18, Try.ntmps18
    go_wp2
    go_loopw [5] (fun i wr => ∃ k : Nat, k ≤ n ∧ i = .int .i64 k ∧ xs.take k = ys.take k ∧ Below w.heap.size w wr) (fun i _ => n - (intOf i).toNat)
    case atStart => exact ⟨0, by omega, rfl, by simp, Below.refl _ _⟩
    case round =>
      obtain ⟨k, hk, rfl, htk, hbel⟩ := hrel
      by_cases hlt : k < n
      · have hx : xs[k]? = some xs[k] := List.getElem?_eq_getElem (by omega)
        have hy : ys[k]? = some ys[k] := List.getElem?_eq_getElem (by omega)
        obtain ⟨x, hx⟩ : ∃ x, xs[k]? = some x := ⟨_, hx⟩
        obtain ⟨y, hy⟩ : ∃ y, ys[k]? = some y := ⟨_, hy⟩
        obtain ⟨b, off, rfl, hb, hcx⟩ := hc k (.int .i64 x) (by simp [hx])
        obtain ⟨b', off', rfl, hb', hcy⟩ := hc' k (.int .i64 y) (by simp [hy])
        have hcx' : wr.cell? ⟨b, off + k, none⟩ = some (.int .i64 x) := (hbel.cell (p := ⟨b, off + k, none⟩) hb).trans hcx
        have hcy' : wr.cell? ⟨b', off' + k, none⟩ = some (.int .i64 y) := (hbel.cell (p := ⟨b', off' + k, none⟩) hb').trans hcy
        have HX := Lib.hid hx
        have HY := Lib.hid hy
        have HT := Lib.hid htk
        clear hx hy hcx hcy htk hc hc'
        by_cases hxy : x = y
        · subst hxy
          go_wp2
          go_quiet (fail)
          go_wp2
          go_roundw
          case rel =>
            exact ⟨k + 1, by omega, by go_num, by rw [List.take_add_one, List.take_add_one, HT.out, HX.out, HY.out], below_drewN hbel _⟩
          case measure => simp [intOf]; omega
        · have hxy' : (x != y) = true := by simpa using hxy
          go_wp2
          go_quiet (fail)
          go_wp2
          go_ret
          refine ⟨?_, below_drewN hbel _⟩
          have : xs ≠ ys := by intro h; subst h; have := HX.out.symm.trans HY.out; simp at this; exact hxy this
          simp [this]
      · go_wp2
        go_ret
        refine ⟨?_, hbel⟩
        have : xs = ys := by
          rw [List.take_of_length_le (by omega), List.take_of_length_le (by omega)] at htk
          exact htk
        simp [this]
  · have hnm' : ((n : Int) != (m : Int)) = true := by simp; omega
    go_enter Try.func18, Try.ntmps18
    go_wp2
    go_ret
    have : xs ≠ ys := by intro h; subst h; omega
    exact ⟨by simp [this], Below.refl _ _⟩
end Go.Proofs.Ytgokaoajpidhnaa
