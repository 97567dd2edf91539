/- store: pages, walked. -/
import Derived.Test.YtcdobdjemlaaaaaGreatJn1
namespace Go.Proofs.YtcdobdjemlaaaaaGreat
open Go.RowKit Wire
set_option linter.unusedVariables false
set_option linter.unusedSimpArgs false

theorem pagesN_le (n : Nat) (h : n ≤ 1000000) : pagesN n ≤ 1000000 := by
  unfold pagesN
  split <;> omega
set_option maxRecDepth 100000 in
set_option maxHeartbeats 3200000 in
theorem stpages_any (w : World) (a b : Nat) (ha : a ≤ 1000000) (hb : b ≤ 1000000) : Calls Tryz.prog 67 #[.int .i64 (a : Int), .int .i64 (b : Int)] w fun e w' => e = .returned (.int .i64 ((pagesN a + pagesN b : Nat) : Int)) ∧ w = w' := by
  have C1 := pages_any w a ha
  have C2 := pages_any w b hb
  have h1 := pagesN_le a ha
  have h2 := pagesN_le b hb
  obtain ⟨x, hx⟩ : ∃ x, pagesN a = x := ⟨_, rfl⟩
  obtain ⟨y, hy⟩ : ∃ y, pagesN b = y := ⟨_, rfl⟩
  rw [hx] at C1 h1 ⊢
  rw [hy] at C2 h2 ⊢
  clear hx hy
  go_enter Tryz.func67, Tryz.ntmps67
  go_wp2_with fail
  refine C1.mono ?_
  rintro e w2 ⟨rfl, rfl⟩
  clear C1
  go_wp2_with fail
  refine C2.mono ?_
  rintro e w2 ⟨rfl, rfl⟩
  clear C2
  go_wp2_with fail
  go_ret
  refine ⟨?_, rfl⟩
  rw [show ((x + y : Nat) : Int) = (x : Int) + (y : Int) by omega]
  rfl
end Go.Proofs.YtcdobdjemlaaaaaGreat
