/- PartRows: the walk of the law itself. -/
import Derived.Deep.DeepCutAuto
import Derived.Test.YtgokaoajpidhnaaPartRows
namespace Go.Proofs.Ytgokaoajpidhnaa
open Go.RowKit Go.Shelf
set_option linter.unusedVariables false

set_option maxRecDepth 100000 in
set_option maxHeartbeats 4000000 in
theorem partRows_walk (a c leave b f t : Int) (w : World) (hc0 : -9223372036854775808 ≤ c) (hc1 : c ≤ 9223372036854775807) :
    Calls Try.prog 4 #[.int .i64 a, .int .i64 c, .int .i64 leave, .agg #[.int .i64 b, .int .i64 f, .int .i64 t]] w fun e w' => e = .returned (.bool true) ∧ Below w.heap.size w w' := by
  by_cases hbig : 5000 < c ∧ c ≤ 1073741824
  · obtain ⟨h1, h2⟩ := hbig
    go_enter Try.func4, Try.ntmps4
    go_wp2_with fail
    refine (known12 _).mono ?_
    rintro e w1 ⟨rfl, hb1⟩
    go_wp2_with fail
    go_ret
    exact ⟨rfl, bthen (balloc (Below.refl _ _) _) hb1⟩
  · have hc2 : pOk a c = true → c ≤ 5000 := by
      intro h
      simp only [pOk, Bool.and_eq_true, decide_eq_true_eq] at h
      omega
    have HC := Lib.hid hc2
    clear hc2
    have hs0 :  (w.alloc (.cells #[.int .i64 b, .int .i64 f, .int .i64 t] 28)).heap[w.heap.size]? = some (.cells #[.int .i64 b, .int .i64 f, .int .i64 t] 28 (0, 0)) := heap_alloc_new w _
    go_enter Try.func4, Try.ntmps4
    go_upto_region 1 with fail
    go_cut [15] (fun s wx => s = .bool false ∧ wx = w.alloc (.cells #[.int .i64 b, .int .i64 f, .int .i64 t] 28))
    case first =>
      by_cases h5 : 5000 < c
      all_goals
        go_wp2_with fail
        go_meet
        exact ⟨by first | rfl | (congr 1; simp; omega), rfl⟩
    case rest =>
      obtain ⟨rfl, rfl⟩ := hcut
      go_wp2_with fail
      refine (refPart_all a c _ hc0 HC.out).mono ?_
      rintro e w1 ⟨v1, rfl, ho1, hb1⟩
      have hr1 := Rd.of_own ho1
      have hB1 := bthen (balloc (Below.refl _ w) (.cells #[.int .i64 b, .int .i64 f, .int .i64 t] 28)) hb1
      have hs1 : w1.heap[w.heap.size]? = some (.cells #[.int .i64 b, .int .i64 f, .int .i64 t] 28 (0, 0)) := (hb1.block w.heap.size (by simp)).trans hs0
      have c0 : w1.cell? ⟨w.heap.size, 0, none⟩ = some (.int .i64 b) := by rw [cell_of_row w1 _ 0 _ _ _ hs1]; rfl
      have c1 : w1.cell? ⟨w.heap.size, 1, none⟩ = some (.int .i64 f) := by rw [cell_of_row w1 _ 1 _ _ _ hs1]; rfl
      have c2 : w1.cell? ⟨w.heap.size, 2, none⟩ = some (.int .i64 t) := by rw [cell_of_row w1 _ 2 _ _ _ hs1]; rfl
      have hlt1 : w.heap.size < w1.heap.size := (Array.getElem?_eq_some_iff.1 hs1).1
      go_wp2_with fail
      obtain ⟨ao, cap, rfl, _, _, _, _⟩ := hr1
      have hr1 := Rd.of_own ho1
      have hB0 : Below w1.heap.size w1 w1.drew := (Below.refl _ _).drew
      have hen : (((pSpansI a c).length : Int) == ((pSpansI a c).length : Int)) = true := by simp
      by_cases hf : f = 0
      · subst hf
        by_cases ht : t = 4
        · subst ht
          go_region_held3 (fun w' => w'.cell? ⟨w.heap.size, 0, none⟩ = some (.int .i64 b) ∧ w'.cell? ⟨w.heap.size, 1, none⟩ = some (.int .i64 0) ∧ w'.cell? ⟨w.heap.size, 2, none⟩ = some (.int .i64 4) ∧ Below w1.heap.size w1 w')
            (first | go_keep | (go_split_ands; exact ⟨cell_later hbx (by assumption), cell_later hbx (by assumption), cell_later hbx (by assumption), bthen (by assumption) hbx⟩))
            (first
              | (go_at_call 23; refine (partSplit_any a c hc0 _).mono ?_; rintro e w2 ⟨v2, rfl, ho2, hbx⟩)
              | (go_at_call 22; go_split_ands; refine (sameSpans_true _ _ _ _ _ _ (Rd.of_own ho2) (hr1.below (by assumption))).mono ?_; rintro e wx ⟨rfl, hbx⟩)
              | (go_at_call 24; go_split_ands; refine (once_any a c _ hc0 _ _ (hr1.below (by assumption))).mono ?_; rintro e wx ⟨rfl, hbx⟩)
              | (go_at_call 25; refine (blocks_any a c hc0 _).mono ?_; rintro e wx ⟨rfl, hbx⟩)
              | (go_at_call 26; refine (whole_any _ _ _ _).mono ?_; rintro e wx ⟨rfl, hbx⟩)
              | (go_at_call 20; refine (known12 _).mono ?_; rintro e wx ⟨rfl, hbx⟩))
          go_split_ands
          have hBf := bthen hB1 (by assumption)
          go_wp2
          go_ret
          exact ⟨rfl, hBf⟩
        · have ht' : (t == 4) = false := by simpa using ht
          clear ht
          go_region_held3 (fun w' => w'.cell? ⟨w.heap.size, 0, none⟩ = some (.int .i64 b) ∧ w'.cell? ⟨w.heap.size, 1, none⟩ = some (.int .i64 0) ∧ w'.cell? ⟨w.heap.size, 2, none⟩ = some (.int .i64 t) ∧ Below w1.heap.size w1 w')
            (first | go_keep | (go_split_ands; exact ⟨cell_later hbx (by assumption), cell_later hbx (by assumption), cell_later hbx (by assumption), bthen (by assumption) hbx⟩))
            (first
              | (go_at_call 23; refine (partSplit_any a c hc0 _).mono ?_; rintro e w2 ⟨v2, rfl, ho2, hbx⟩)
              | (go_at_call 22; go_split_ands; refine (sameSpans_true _ _ _ _ _ _ (Rd.of_own ho2) (hr1.below (by assumption))).mono ?_; rintro e wx ⟨rfl, hbx⟩)
              | (go_at_call 24; go_split_ands; refine (once_any a c _ hc0 _ _ (hr1.below (by assumption))).mono ?_; rintro e wx ⟨rfl, hbx⟩)
              | (go_at_call 25; refine (blocks_any a c hc0 _).mono ?_; rintro e wx ⟨rfl, hbx⟩)
              | (go_at_call 26; refine (whole_any _ _ _ _).mono ?_; rintro e wx ⟨rfl, hbx⟩)
              | (go_at_call 20; refine (known12 _).mono ?_; rintro e wx ⟨rfl, hbx⟩))
          go_split_ands
          have hBf := bthen hB1 (by assumption)
          go_wp2
          go_ret
          exact ⟨rfl, hBf⟩
      · have hf' : (f == 0) = false := by simpa using hf
        have hf2 : decide (f = 0) = false := by simpa using hf
        clear hf
        first
          | (go_region_with (first
              | (go_at_call 23; refine (partSplit_any a c hc0 _).mono ?_; rintro e w2 ⟨v2, rfl, ho2, hbx⟩; have hBx := bthen hB0 hbx; have d0 := cell_later hBx c0; have d1 := cell_later hBx c1; have d2 := cell_later hBx c2)
              | (go_at_call 22; refine (sameSpans_true _ _ _ _ _ _ (Rd.of_own ho2) (hr1.below hBx)).mono ?_; rintro e w3 ⟨rfl, hbx⟩; replace hBx := bthen hBx hbx; clear d0 d1 d2; have d0 := cell_later hBx c0; have d1 := cell_later hBx c1; have d2 := cell_later hBx c2)
              | (go_at_call 24; refine (once_any a c _ hc0 _ _ (hr1.below hBx)).mono ?_; rintro e w3 ⟨rfl, hbx⟩; replace hBx := bthen hBx hbx; clear d0 d1 d2; have d0 := cell_later hBx c0; have d1 := cell_later hBx c1; have d2 := cell_later hBx c2)
              | (go_at_call 25; refine (blocks_any a c hc0 _).mono ?_; rintro e w3 ⟨rfl, hbx⟩; replace hBx := bthen hBx hbx; clear d0 d1 d2; have d0 := cell_later hBx c0; have d1 := cell_later hBx c1; have d2 := cell_later hBx c2)
              | (go_at_call 26; refine (whole_any _ _ _ _).mono ?_; rintro e w3 ⟨rfl, hbx⟩; replace hBx := bthen hBx hbx; clear d0 d1 d2; have d0 := cell_later hBx c0; have d1 := cell_later hBx c1; have d2 := cell_later hBx c2)
              | (go_at_call 20; refine (known12 _).mono ?_; rintro e w3 ⟨rfl, hbx⟩; replace hBx := bthen hBx hbx)))
          | fail
        all_goals
          have hBf := bthen hB1 hBx
          go_wp2
          go_ret
          exact ⟨rfl, hBf⟩
end Go.Proofs.Ytgokaoajpidhnaa
