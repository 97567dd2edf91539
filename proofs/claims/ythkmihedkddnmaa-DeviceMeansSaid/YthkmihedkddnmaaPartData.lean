/- part.Data and the reference's Data, walked: the bytes of a part. -/
import Derived.StillTailTactics
import Derived.Test.YthkmihedkddnmaaWA
namespace Go.Proofs.Ythkmihedkddnmaa
open Go.RowKit
set_option linter.unusedVariables false

/-- The sector of data at which sector k of the block blk stands, between 0 and nd. -/
def pClamp (blk at_ nd k : Int) : Int := min (max (blk * 4 + k - at_) 0) nd
def dataP (bs : List UInt8) (blk at_ f t : Int) : List UInt8 :=
  (bs.drop (pClamp blk at_ ((bs.length : Int) / 64) f * 64).toNat).take ((pClamp blk at_ ((bs.length : Int) / 64) t * 64).toNat - (pClamp blk at_ ((bs.length : Int) / 64) f * 64).toNat)

set_option maxRecDepth 100000 in
set_option maxHeartbeats 400000 in
theorem place_any (k blk f t at_ : Int) (ao : Option Addr) (n cap : Nat) (B : Nat) (w : World) (hk : 0 ≤ k ∧ k ≤ 4) (hb : 0 ≤ blk ∧ blk ≤ 268435456) (ha : 0 ≤ at_ ∧ at_ ≤ 1073741824) (hn : n ≤ 140737488355328)
    (c0 : w.cell? ⟨B, 0, none⟩ = some (.int .i64 blk)) (c1 : w.cell? ⟨B + 1, 0, none⟩ = some (.int .i64 at_)) (c2 : w.cell? ⟨B + 1 + 1, 0, none⟩ = some (.slice ao n cap)) :
    Calls Try.prog 48 #[.int .i64 k, .pointer (some ⟨B, 0, none⟩), .pointer (some ⟨B + 1, 0, none⟩), .pointer (some ⟨B + 1 + 1, 0, none⟩)] w fun e w' => e = .returned (.int .i64 (pClamp blk at_ ((n : Int) / 64) k * 64)) ∧ w' = w := by
  obtain ⟨hk1, hk2⟩ := hk
  obtain ⟨hb1, hb2⟩ := hb
  obtain ⟨ha1, ha2⟩ := ha
  by_cases h1 : 0 ≤ blk * 4 + k - at_
  · by_cases h2 : blk * 4 + k - at_ ≤ (n : Int) / 64
    · have e2 : pClamp blk at_ ((n : Int) / 64) k = blk * 4 + k - at_ := by unfold pClamp; omega
      have m1 : max (blk * 4 + k - at_) 0 = blk * 4 + k - at_ := by omega
      have m2 : min (blk * 4 + k - at_) ((n : Int) / 64) = blk * 4 + k - at_ := by omega
      rw [e2]
      clear e2
      go_enter Try.func48, Try.ntmps48
      go_wp2
      go_ret
      exact ⟨rfl, rfl⟩
    · have e2 : pClamp blk at_ ((n : Int) / 64) k = (n : Int) / 64 := by unfold pClamp; omega
      have m1 : max (blk * 4 + k - at_) 0 = blk * 4 + k - at_ := by omega
      have m2 : min (blk * 4 + k - at_) ((n : Int) / 64) = (n : Int) / 64 := by omega
      rw [e2]
      clear e2
      go_enter Try.func48, Try.ntmps48
      go_wp2
      go_ret
      exact ⟨rfl, rfl⟩
  · have e2 : pClamp blk at_ ((n : Int) / 64) k = 0 := by unfold pClamp; omega
    have m1 : max (blk * 4 + k - at_) 0 = 0 := by omega
    have m2 : min (0 : Int) ((n : Int) / 64) = 0 := by omega
    rw [e2]
    clear e2
    go_enter Try.func48, Try.ntmps48
    go_wp2
    go_ret
    exact ⟨rfl, rfl⟩

/-- Does the part have sectors, and is it where blocks may be? -/
def dOk (blk at_ f t : Int) : Bool := decide (0 ≤ blk) && decide (blk ≤ 268435456) && decide (0 ≤ at_) && decide (at_ ≤ 1073741824) && decide (0 ≤ f) && decide (t ≤ 4) && decide (f < t)

theorem pClamp_le (blk at_ nd k : Int) (h : 0 ≤ nd) : 0 ≤ pClamp blk at_ nd k ∧ pClamp blk at_ nd k ≤ nd := by unfold pClamp; omega
theorem pClamp_mono (blk at_ nd : Int) {k l : Int} (h : k ≤ l) : pClamp blk at_ nd k ≤ pClamp blk at_ nd l := by unfold pClamp; omega

set_option maxRecDepth 100000 in
set_option maxHeartbeats 1000000 in
theorem partData_ok (blk f t at_ : Int) (v : Value) (n : Nat) (bs : List UInt8) (w : World) (hok : dOk blk at_ f t = true) (h : Rd w 1 v n (bV bs)) (hn : n ≤ 140737488355328) :
    Calls Try.prog 39 #[.agg #[.int .i64 blk, .int .i64 f, .int .i64 t], .int .i64 at_, v] w fun e w' => ∃ v', e = .returned v' ∧ w'.ownsRow w.heap.size 5 1 v' (dataP bs blk at_ f t).length (bV (dataP bs blk at_ f t)) ∧ Below w.heap.size w w' := by
  simp only [dOk, Bool.and_eq_true, decide_eq_true_eq] at hok
  obtain ⟨⟨⟨⟨⟨⟨hb1, hb2⟩, ha1⟩, ha2⟩, hf⟩, ht⟩, hft⟩ := hok
  have hrd := h
  obtain ⟨ao, cap, rfl, hl, hm, hcap, hc⟩ := h
  rw [bV_len, Nat.mul_one] at hl
  go_enter Try.func39, Try.ntmps39
  go_wp2
  obtain ⟨X, hX⟩ : ∃ X, X = pClamp blk at_ ((n : Int) / 64) f * 64 := ⟨_, rfl⟩
  obtain ⟨Y, hY⟩ : ∃ Y, Y = pClamp blk at_ ((n : Int) / 64) t * 64 := ⟨_, rfl⟩
  have p1 := pClamp_le blk at_ ((n : Int) / 64) f (by omega)
  have p2 := pClamp_le blk at_ ((n : Int) / 64) t (by omega)
  have p3 := pClamp_mono blk at_ ((n : Int) / 64) (Int.le_of_lt hft)
  have hX0 : 0 ≤ X := by omega
  have hXY : X ≤ Y := by omega
  have hYn : Y ≤ n := by omega
  have P1 := fun (W : World) h0 h1 h2 => place_any f blk f t at_ ao n cap w.heap.size W ⟨hf, by omega⟩ ⟨hb1, hb2⟩ ⟨ha1, ha2⟩ hn h0 h1 h2
  have P2 := fun (W : World) h0 h1 h2 => place_any t blk f t at_ ao n cap w.heap.size W ⟨by omega, ht⟩ ⟨hb1, hb2⟩ ⟨ha1, ha2⟩ hn h0 h1 h2
  rw [← hX] at P1
  rw [← hY] at P2
  have HX := Lib.hid hX
  have HY := Lib.hid hY
  have HP1 := Lib.hid P1
  have HP2 := Lib.hid P2
  clear hX hY p1 p2 p3 P1 P2
  obtain ⟨hcn, hnc, hcm⟩ := hcap
  have hYc : Y ≤ (cap : Int) := by omega
  have hcut := fun W => run_cut (P := Try.prog) W 25 ao n cap 1 (by kernel_rfl) (fun _ => by kernel_rfl) X Y hX0 hXY hYc
  have hrc := hrd.cut (l := X.toNat) (k := Y.toNat) (by omega) (by omega)
  simp only [Nat.mul_one] at hrc
  have hdat : (List.drop X.toNat (bV bs)).take (Y.toNat - X.toNat) = bV (dataP bs blk at_ f t) := by
    unfold dataP bV
    rw [hl, ← HX.out, ← HY.out, ← List.map_drop, ← List.map_take]
  have hdl : (dataP bs blk at_ f t).length = Y.toNat - X.toNat := by
    rw [← bV_len, ← hdat, List.length_take, List.length_drop, bV_len]; omega
  rw [hdat, ← hdl] at hrc
  have HD := Lib.hid hdl
  have hlen : (dataP bs blk at_ f t).length ≤ 140737488355328 := by omega
  clear hdat hdl
  refine wp_region_still_tail 10 (by kernel_rfl) (by kernel_rfl) ?_
  simp only [List.take_succ_cons, List.take_zero, List.drop_succ_cons, List.drop_zero]
  change wpStill _ _ (World.drew _) (fun a' => wpList _ _ _ _ a' (World.drew _)) _ _
  repeat still_step
  still_call (HP1.out _ (by go_simp) (by go_simp) (by go_simp))
  repeat still_step
  still_call (HP2.out _ (by go_simp) (by go_simp) (by go_simp))
  repeat still_step
  refine wpStill_nil ?_
  go_wp2_with fail
  rw [← HD.out]
  have hrc2 := (((hrc.below (balloc (Below.refl _ w) (.cells #[.int .i64 blk, .int .i64 f, .int .i64 t] 81))).below (balloc (Below.refl _ _) (.cells #[.int .i64 at_] 3))).below (balloc (Below.refl _ _) (.cells #[.slice ao n cap] 25))).below ((Below.refl _ _).drew)
  refine (clone8 _ _ _ _ hrc2 hlen).mono ?_
  rintro e w1 ⟨v1, rfl, ho1, hb1⟩
  go_wp2_with fail
  go_ret
  exact ⟨_, rfl, ownsRow_base ho1 (by simp; omega), bthen (Below.drew (balloc (balloc (balloc (Below.refl _ w) _) _) _)) hb1⟩

/-- The data of a part: nothing, where the part is none. -/
def dataI (bs : List UInt8) (blk at_ f t : Int) : List UInt8 := if dOk blk at_ f t = true then dataP bs blk at_ f t else []

set_option maxRecDepth 100000 in
set_option maxHeartbeats 1000000 in
theorem partData_no (blk f t at_ : Int) (ao : Option Addr) (n cap : Nat) (w : World) (hok : dOk blk at_ f t = false) :
    Calls Try.prog 39 #[.agg #[.int .i64 blk, .int .i64 f, .int .i64 t], .int .i64 at_, .slice ao n cap] w fun e w' => e = .returned (.slice none 0 0) ∧ Below w.heap.size w w' := by
  simp only [dOk, Bool.and_eq_false_iff, decide_eq_false_iff_not] at hok
  by_cases h1 : blk < 0
  · clear hok
    go_enter Try.func39, Try.ntmps39
    go_wp2
    go_ret
    exact ⟨rfl, balloc (balloc (balloc (Below.refl _ w) _) _) _⟩
  · by_cases h2 : 268435456 < blk
    · clear hok
      go_enter Try.func39, Try.ntmps39
      go_wp2
      go_ret
      exact ⟨rfl, balloc (balloc (balloc (Below.refl _ w) _) _) _⟩
    · by_cases h3 : at_ < 0
      · clear hok
        go_enter Try.func39, Try.ntmps39
        go_wp2
        go_ret
        exact ⟨rfl, balloc (balloc (balloc (Below.refl _ w) _) _) _⟩
      · by_cases h4 : 1073741824 < at_
        · clear hok
          go_enter Try.func39, Try.ntmps39
          go_wp2
          go_ret
          exact ⟨rfl, balloc (balloc (balloc (Below.refl _ w) _) _) _⟩
        · by_cases h5 : f < 0
          · clear hok
            go_enter Try.func39, Try.ntmps39
            go_wp2
            go_ret
            exact ⟨rfl, balloc (balloc (balloc (Below.refl _ w) _) _) _⟩
          · by_cases h6 : 4 < t
            · clear hok
              go_enter Try.func39, Try.ntmps39
              go_wp2
              go_ret
              exact ⟨rfl, balloc (balloc (balloc (Below.refl _ w) _) _) _⟩
            · have h7 : t ≤ f := by omega
              clear hok
              go_enter Try.func39, Try.ntmps39
              go_wp2
              go_ret
              exact ⟨rfl, balloc (balloc (balloc (Below.refl _ w) _) _) _⟩

theorem partData_any (blk f t at_ : Int) (v : Value) (n : Nat) (bs : List UInt8) (w : World) (h : Rd w 1 v n (bV bs)) (hn : n ≤ 140737488355328) :
    Calls Try.prog 39 #[.agg #[.int .i64 blk, .int .i64 f, .int .i64 t], .int .i64 at_, v] w fun e w' => ∃ v', e = .returned v' ∧ w'.ownsRow w.heap.size 5 1 v' (dataI bs blk at_ f t).length (bV (dataI bs blk at_ f t)) ∧ Below w.heap.size w w' := by
  by_cases hok : dOk blk at_ f t = true
  · simp only [dataI, hok, if_true]
    exact partData_ok blk f t at_ v n bs w hok h hn
  · have hok' : dOk blk at_ f t = false := by simpa using hok
    simp only [dataI, hok', Bool.false_eq_true, if_false]
    obtain ⟨ao, cap, rfl, _⟩ := h
    refine (partData_no blk f t at_ ao n cap w hok').mono ?_
    rintro e w' ⟨rfl, hb⟩
    exact ⟨_, rfl, World.ownsRow_nil _ _ _ _, hb⟩
end Go.Proofs.Ythkmihedkddnmaa
