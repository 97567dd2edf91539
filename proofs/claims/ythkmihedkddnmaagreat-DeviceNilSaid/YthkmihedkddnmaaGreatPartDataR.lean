/- The reference's Data of a part (sector by sector), walked. -/
import Derived.Test.YthkmihedkddnmaaGreatPartData
namespace Go.Proofs.YthkmihedkddnmaaGreat
open Go.RowKit
set_option linter.unusedVariables false

set_option maxRecDepth 100000 in
set_option maxHeartbeats 400000 in
theorem span12_any (blk f t : Int) (w : World) : Calls Tryz.prog 80 #[.agg #[.int .i64 blk, .int .i64 f, .int .i64 t]] w fun e w' => e = .returned (.bool (decide (0 ≤ f) && decide (t ≤ 4) && decide (f < t))) ∧ Below w.heap.size w w' := by
  by_cases h1 : 0 ≤ f
  · by_cases h2 : t ≤ 4
    · by_cases h3 : f < t
      all_goals
        go_enter Tryz.func80, Tryz.ntmps80
        go_wp2
        go_ret
        exact ⟨by simp [h1, h2, h3], balloc (Below.refl _ w) _⟩
    · go_enter Tryz.func80, Tryz.ntmps80
      go_wp2
      go_ret
      exact ⟨by simp; omega, balloc (Below.refl _ w) _⟩
  · go_enter Tryz.func80, Tryz.ntmps80
    go_wp2
    go_ret
    exact ⟨by simp; omega, balloc (Below.refl _ w) _⟩

theorem dataP_step_in (bs : List UInt8) (blk at_ f k : Int) (h0 : 0 ≤ blk * 4 + k - at_) (h1 : blk * 4 + k - at_ < (bs.length : Int) / 64) (hfk : f ≤ k) :
    dataP bs blk at_ f (k + 1) = dataP bs blk at_ f k ++ (bs.drop ((blk * 4 + k - at_) * 64).toNat).take 64 := by
  obtain ⟨n, hn⟩ : ∃ n : Nat, (n : Int) = blk * 4 + k - at_ := ⟨(blk * 4 + k - at_).toNat, by omega⟩
  have e1 : pClamp blk at_ ((bs.length : Int) / 64) k = n := by unfold pClamp; omega
  have e2 : pClamp blk at_ ((bs.length : Int) / 64) (k + 1) = n + 1 := by unfold pClamp; omega
  have p1 := pClamp_mono blk at_ ((bs.length : Int) / 64) hfk
  have p2 := pClamp_le blk at_ ((bs.length : Int) / 64) f (by omega)
  unfold dataP
  rw [e1] at p1
  rw [e1, e2, ← hn]
  generalize pClamp blk at_ ((bs.length : Int) / 64) f = p at *
  obtain ⟨m, rfl⟩ := Int.eq_ofNat_of_zero_le p2.1
  have a1 : (((n : Int) + 1) * 64).toNat - ((m : Int) * 64).toNat = (((n : Int) * 64).toNat - ((m : Int) * 64).toNat) + 64 := by omega
  rw [a1, List.take_add, List.drop_drop]
  congr 3
  omega

theorem dataP_step_out (bs : List UInt8) (blk at_ f k : Int) (h : ¬ (0 ≤ blk * 4 + k - at_ ∧ blk * 4 + k - at_ < (bs.length : Int) / 64)) : dataP bs blk at_ f (k + 1) = dataP bs blk at_ f k := by
  have e1 : pClamp blk at_ ((bs.length : Int) / 64) (k + 1) = pClamp blk at_ ((bs.length : Int) / 64) k := by unfold pClamp; omega
  unfold dataP
  rw [e1]

theorem dataP_self (bs : List UInt8) (blk at_ f : Int) : dataP bs blk at_ f f = [] := by unfold dataP; simp

theorem dataP_len (bs : List UInt8) (blk at_ f t : Int) : (dataP bs blk at_ f t).length ≤ bs.length := by
  unfold dataP
  rw [List.length_take, List.length_drop]
  omega

set_option maxRecDepth 100000 in
set_option maxHeartbeats 1000000 in
theorem refData_ok (blk f t at_ : Int) (v : Value) (n : Nat) (bs : List UInt8) (w : World) (hok : dOk blk at_ f t = true) (h : Rd w 1 v n (bV bs)) (hn : n ≤ 100000000000) :
    Calls Tryz.prog 53 #[.agg #[.int .i64 blk, .int .i64 f, .int .i64 t], .int .i64 at_, v] w fun e w' => ∃ v', e = .returned v' ∧ w'.ownsRow w.heap.size 5 1 v' (dataP bs blk at_ f t).length (bV (dataP bs blk at_ f t)) ∧ Below w.heap.size w w' := by
  simp only [dOk, Bool.and_eq_true, decide_eq_true_eq] at hok
  obtain ⟨⟨⟨⟨⟨⟨hb1, hb2⟩, ha1⟩, ha2⟩, hf⟩, ht⟩, hft⟩ := hok
  have hrd := h
  obtain ⟨ao, cap, rfl, hl, hm, ⟨hcn, hnc, hcm⟩, hc⟩ := h
  rw [bV_len, Nat.mul_one] at hl
  have hs0 : (w.alloc (.cells #[.int .i64 blk, .int .i64 f, .int .i64 t] 100)).heap[w.heap.size]? = some (.cells #[.int .i64 blk, .int .i64 f, .int .i64 t] 100 (0, 0)) := heap_alloc_new w _
  have hsp : (decide (0 ≤ f) && decide (t ≤ 4) && decide (f < t)) = true := by simp [hf, ht, hft]
  go_enter Tryz.func53, Tryz.ntmps53
  go_wp2_with fail
  refine (span12_any _ _ _ _).mono ?_
  rintro e w1 ⟨rfl, hb1'⟩
  rw [hsp]
  have hs1 : w1.heap[w.heap.size]? = some (.cells #[.int .i64 blk, .int .i64 f, .int .i64 t] 100 (0, 0)) := (hb1'.block w.heap.size (by simp)).trans hs0
  have c0 : w1.cell? ⟨w.heap.size, 0, none⟩ = some (.int .i64 blk) := by rw [cell_of_row w1 _ 0 _ _ _ hs1]; rfl
  have c1 : w1.cell? ⟨w.heap.size, 1, none⟩ = some (.int .i64 f) := by rw [cell_of_row w1 _ 1 _ _ _ hs1]; rfl
  have c2 : w1.cell? ⟨w.heap.size, 2, none⟩ = some (.int .i64 t) := by rw [cell_of_row w1 _ 2 _ _ _ hs1]; rfl
  have hlt1 : w.heap.size < w1.heap.size := (Array.getElem?_eq_some_iff.1 hs1).1
  have hB1 := bthen (balloc (Below.refl _ w) (.cells #[.int .i64 blk, .int .i64 f, .int .i64 t] 100)) hb1'
  have hrd1 := hrd.below hB1
  go_wp2_with fail
  go_loopw [7, 8, 9] (fun v k _ wr => ∃ kk : Int, f ≤ kk ∧ kk ≤ t ∧ k = .int .i64 kk ∧ wr.ownsRow w1.heap.size 5 1 v (dataP bs blk at_ f kk).length (bV (dataP bs blk at_ f kk)) ∧ Below w1.heap.size w1 wr)
    (fun _ k _ _ => (t - intOf k).toNat)
  case atStart => exact ⟨f, by omega, by omega, rfl, by rw [dataP_self]; exact World.ownsRow_nil _ _ _ _, Below.refl _ _⟩
  case round =>
    obtain ⟨k, hk1, hk2, rfl, hown, hbel⟩ := hrel
    have d0 : wr.cell? ⟨w.heap.size, 0, none⟩ = some (.int .i64 blk) := (hbel.cell (p := ⟨w.heap.size, 0, none⟩) hlt1).trans c0
    have d1 : wr.cell? ⟨w.heap.size, 1, none⟩ = some (.int .i64 f) := (hbel.cell (p := ⟨w.heap.size, 1, none⟩) hlt1).trans c1
    have d2 : wr.cell? ⟨w.heap.size, 2, none⟩ = some (.int .i64 t) := (hbel.cell (p := ⟨w.heap.size, 2, none⟩) hlt1).trans c2
    have hws := hbel.size
    have hdl := dataP_len bs blk at_ f k
    by_cases hlt : k < t
    · by_cases hin : 0 ≤ 4 * blk + k - at_
      · by_cases hin2 : 4 * blk + k - at_ < (n : Int) / 64
        · have HS := Lib.hid (dataP_step_in bs blk at_ f k (by omega) (by omega) hk1)
          have hX0 : 0 ≤ 64 * (4 * blk + k - at_) := by omega
          have hXY : 64 * (4 * blk + k - at_) ≤ 64 * (4 * blk + k - at_) + 64 := by omega
          have hXn : 64 * (4 * blk + k - at_) + 64 ≤ n := by omega
          have hXc : 64 * (4 * blk + k - at_) + 64 ≤ cap := by omega
          have hcut := fun W => run_cut (P := Tryz.prog) W 33 ao n cap 1 (by kernel_rfl) (fun _ => by kernel_rfl) (64 * (4 * blk + k - at_)) (64 * (4 * blk + k - at_) + 64) hX0 hXY hXc
          have hrc := ((hrd1.cut (l := (64 * (4 * blk + k - at_)).toNat) (k := (64 * (4 * blk + k - at_) + 64).toNat) (by omega) (by omega)).below hbel)
          simp only [Nat.mul_one] at hrc
          have h64 : (64 * (4 * blk + k - at_) + 64).toNat - (64 * (4 * blk + k - at_)).toNat = 64 := by omega
          have hdat : (List.drop (64 * (4 * blk + k - at_)).toNat (bV bs)).take 64 = bV ((bs.drop ((blk * 4 + k - at_) * 64).toNat).take 64) := by
            unfold bV
            rw [← List.map_drop, ← List.map_take, show (64 * (4 * blk + k - at_)).toNat = ((blk * 4 + k - at_) * 64).toNat from by omega]
          rw [h64, hdat] at hrc
          rw [h64] at hcut
          clear hdat h64
          have h64l : ((bs.drop ((blk * 4 + k - at_) * 64).toNat).take 64).length = 64 := by rw [List.length_take, List.length_drop]; omega
          have H64 := Lib.hid h64l
          clear h64l
          go_wp2_with (at_builtin; go_must (refine wpList_apps rfl _ _ 33 rfl w1.heap.size 5 _ 1 1 Tryz.underlying33 infoByte rfl (by decide) (by decide) _ _ _ rfl hown _ 64 _ rfl hrc (bV_one _) (by omega) hws ?_); intro v' w2 ho2 hb2 _ _ _)
          go_roundw
          case rel =>
            refine ⟨k + 1, by omega, by omega, rfl, ?_, hbel.trans hb2⟩
            rw [HS.out, bV_app, List.length_append, H64.out]
            exact ho2
          case measure => simp [intOf]; omega
        · have HS := Lib.hid (dataP_step_out bs blk at_ f k (by omega))
          go_wp2_with fail
          go_roundw
          case rel => exact ⟨k + 1, by omega, by omega, rfl, by rw [HS.out]; exact hown, hbel⟩
          case measure => simp [intOf]; omega
      · have HS := Lib.hid (dataP_step_out bs blk at_ f k (by omega))
        go_wp2_with fail
        go_roundw
        case rel => exact ⟨k + 1, by omega, by omega, rfl, by rw [HS.out]; exact hown, hbel⟩
        case measure => simp [intOf]; omega
    · obtain rfl : k = t := by omega
      go_wp2_with fail
      go_ret
      exact ⟨_, rfl, ownsRow_base hown (Nat.le_of_lt (Nat.lt_of_le_of_lt (Nat.le_refl _) hlt1)), bthen hB1 hbel⟩

set_option maxRecDepth 100000 in
set_option maxHeartbeats 1000000 in
theorem refData_no (blk f t at_ : Int) (ao : Option Addr) (n cap : Nat) (w : World) (hok : dOk blk at_ f t = false) :
    Calls Tryz.prog 53 #[.agg #[.int .i64 blk, .int .i64 f, .int .i64 t], .int .i64 at_, .slice ao n cap] w fun e w' => e = .returned (.slice none 0 0) ∧ Below w.heap.size w w' := by
  simp only [dOk, Bool.and_eq_false_iff, decide_eq_false_iff_not] at hok
  have hs0 : (w.alloc (.cells #[.int .i64 blk, .int .i64 f, .int .i64 t] 100)).heap[w.heap.size]? = some (.cells #[.int .i64 blk, .int .i64 f, .int .i64 t] 100 (0, 0)) := heap_alloc_new w _
  by_cases hsp : (decide (0 ≤ f) && decide (t ≤ 4) && decide (f < t)) = true
  · have hsp' := hsp
    simp only [Bool.and_eq_true, decide_eq_true_eq] at hsp'
    by_cases h1 : blk < 0
    · clear hok hsp'
      go_enter Tryz.func53, Tryz.ntmps53
      go_wp2_with fail
      refine (span12_any _ _ _ _).mono ?_
      rintro e w1 ⟨rfl, hb1'⟩
      rw [hsp]
      have hs1 : w1.heap[w.heap.size]? = some (.cells #[.int .i64 blk, .int .i64 f, .int .i64 t] 100 (0, 0)) := (hb1'.block w.heap.size (by simp)).trans hs0
      have c0 : w1.cell? ⟨w.heap.size, 0, none⟩ = some (.int .i64 blk) := by rw [cell_of_row w1 _ 0 _ _ _ hs1]; rfl
      have hB1 := bthen (balloc (Below.refl _ w) (.cells #[.int .i64 blk, .int .i64 f, .int .i64 t] 100)) hb1'
      go_wp2_with fail
      go_ret
      exact ⟨rfl, hB1⟩
    · by_cases h2 : 268435456 < blk
      · clear hok hsp'
        go_enter Tryz.func53, Tryz.ntmps53
        go_wp2_with fail
        refine (span12_any _ _ _ _).mono ?_
        rintro e w1 ⟨rfl, hb1'⟩
        rw [hsp]
        have hs1 : w1.heap[w.heap.size]? = some (.cells #[.int .i64 blk, .int .i64 f, .int .i64 t] 100 (0, 0)) := (hb1'.block w.heap.size (by simp)).trans hs0
        have c0 : w1.cell? ⟨w.heap.size, 0, none⟩ = some (.int .i64 blk) := by rw [cell_of_row w1 _ 0 _ _ _ hs1]; rfl
        have hB1 := bthen (balloc (Below.refl _ w) (.cells #[.int .i64 blk, .int .i64 f, .int .i64 t] 100)) hb1'
        go_wp2_with fail
        go_ret
        exact ⟨rfl, hB1⟩
      · by_cases h3 : at_ < 0
        · clear hok hsp'
          go_enter Tryz.func53, Tryz.ntmps53
          go_wp2_with fail
          refine (span12_any _ _ _ _).mono ?_
          rintro e w1 ⟨rfl, hb1'⟩
          rw [hsp]
          have hs1 : w1.heap[w.heap.size]? = some (.cells #[.int .i64 blk, .int .i64 f, .int .i64 t] 100 (0, 0)) := (hb1'.block w.heap.size (by simp)).trans hs0
          have c0 : w1.cell? ⟨w.heap.size, 0, none⟩ = some (.int .i64 blk) := by rw [cell_of_row w1 _ 0 _ _ _ hs1]; rfl
          have hB1 := bthen (balloc (Below.refl _ w) (.cells #[.int .i64 blk, .int .i64 f, .int .i64 t] 100)) hb1'
          go_wp2_with fail
          go_ret
          exact ⟨rfl, hB1⟩
        · have h4 : 1073741824 < at_ := by omega
          clear hok hsp'
          go_enter Tryz.func53, Tryz.ntmps53
          go_wp2_with fail
          refine (span12_any _ _ _ _).mono ?_
          rintro e w1 ⟨rfl, hb1'⟩
          rw [hsp]
          have hs1 : w1.heap[w.heap.size]? = some (.cells #[.int .i64 blk, .int .i64 f, .int .i64 t] 100 (0, 0)) := (hb1'.block w.heap.size (by simp)).trans hs0
          have c0 : w1.cell? ⟨w.heap.size, 0, none⟩ = some (.int .i64 blk) := by rw [cell_of_row w1 _ 0 _ _ _ hs1]; rfl
          have hB1 := bthen (balloc (Below.refl _ w) (.cells #[.int .i64 blk, .int .i64 f, .int .i64 t] 100)) hb1'
          go_wp2_with fail
          go_ret
          exact ⟨rfl, hB1⟩
  · replace hsp : (decide (0 ≤ f) && decide (t ≤ 4) && decide (f < t)) = false := by simpa using hsp
    clear hok
    go_enter Tryz.func53, Tryz.ntmps53
    go_wp2_with fail
    refine (span12_any _ _ _ _).mono ?_
    rintro e w1 ⟨rfl, hb1'⟩
    rw [hsp]
    have hs1 : w1.heap[w.heap.size]? = some (.cells #[.int .i64 blk, .int .i64 f, .int .i64 t] 100 (0, 0)) := (hb1'.block w.heap.size (by simp)).trans hs0
    have c0 : w1.cell? ⟨w.heap.size, 0, none⟩ = some (.int .i64 blk) := by rw [cell_of_row w1 _ 0 _ _ _ hs1]; rfl
    have hB1 := bthen (balloc (Below.refl _ w) (.cells #[.int .i64 blk, .int .i64 f, .int .i64 t] 100)) hb1'
    go_wp2_with fail
    go_ret
    exact ⟨rfl, hB1⟩

theorem refData_any (blk f t at_ : Int) (v : Value) (n : Nat) (bs : List UInt8) (w : World) (h : Rd w 1 v n (bV bs)) (hn : n ≤ 100000000000) :
    Calls Tryz.prog 53 #[.agg #[.int .i64 blk, .int .i64 f, .int .i64 t], .int .i64 at_, v] w fun e w' => ∃ v', e = .returned v' ∧ w'.ownsRow w.heap.size 5 1 v' (dataI bs blk at_ f t).length (bV (dataI bs blk at_ f t)) ∧ Below w.heap.size w w' := by
  by_cases hok : dOk blk at_ f t = true
  · simp only [dataI, hok, if_true]
    exact refData_ok blk f t at_ v n bs w hok h hn
  · have hok' : dOk blk at_ f t = false := by simpa using hok
    simp only [dataI, hok', Bool.false_eq_true, if_false]
    obtain ⟨ao, cap, rfl, _⟩ := h
    refine (refData_no blk f t at_ ao n cap w hok').mono ?_
    rintro e w' ⟨rfl, hb⟩
    exact ⟨_, rfl, World.ownsRow_nil _ _ _ _, hb⟩
end Go.Proofs.YthkmihedkddnmaaGreat
