import Derived.Deep.RegionHeld3
import Derived.Test.YtgmahhdnjikdjaaGreatPG13
set_option linter.unusedVariables false
set_option linter.unusedSimpArgs false
/- The methods of count.Area, walked: New, Counts, Copy. -/
namespace Go.Proofs.YtgmahhdnjikdjaaGreat
open Go.RowKit
set_option linter.unusedVariables false
/-- A clone that is not empty is a row of its own. -/
theorem own_row {W : World} {b n : Nat} {v : Value} {l : List Nat} (ho : W.ownsRow b 172 1 v n (kV .u16 l)) (hn : 0 < n) : ∃ g cap, v = .slice (some ⟨g, 0, none⟩) n cap ∧ b ≤ g ∧ Row 172 .u16 W g n cap l := by
 refine Row.of_own ho ?_
 rintro rfl
 rcases ho.2 with ⟨_, h0⟩ | ⟨g, cap, cur, hv, _⟩
 ·omega
 ·cases hv
/-- A new area. -/
theorem box_area {w w1 w2 : World} {a b c1 c2 : Nat} {A : M} (r1 : Row 172 .u16 w1 a A.now.length c1 A.now) (hb1 : Below w.heap.size w w1) (ha : w.heap.size ≤ a)
  (r2 : Row 172 .u16 w2 b A.was.length c2 A.was) (hb2 : Below w1.heap.size w1 w2) (hb : w1.heap.size ≤ b) :
  ∃ F', IA (w2.alloc (.cells #[.slice (some ⟨a, 0, none⟩) A.now.length c1, .slice (some ⟨b, 0, none⟩) A.was.length c2, .int .i64 (A.at_ : Int), .int .i64 (A.kept : Int)] 244)) w2.heap.size A F' ∧ ∀ k ∈ F', w.heap.size ≤ k := by
 have q1 := r1.lt
 have q2 := r2.lt
 have s1 := hb1.size
 have s2 := hb2.size
 refine ⟨[w2.heap.size, a, b], ⟨a, b, c1, c2, rfl, heap_alloc_new _ _, ?_, ?_, by omega, by omega, by omega⟩, ?_⟩
 ·exact r1.same (by rw [Below.heap_alloc _ _ a (by omega), hb2.block a q1])
 ·exact r2.same (Below.heap_alloc _ _ b q2)
 ·intro k hk
  simp only [List.mem_cons, List.not_mem_nil, or_false] at hk
  rcases hk with rfl | rfl | rfl <;> omega
set_option maxRecDepth 100000 in
set_option maxHeartbeats 1600000 in
theorem new_in (v : Value) (n : Nat) (xs : List Nat) {w : World} (h : Rd w 1 v n (kV .u16 xs)) (hn : 1 ≤ n ∧ n ≤ 1000) :
  Calls Tryz.prog 139 #[v] w fun e w' => ∃ q F', e = .returned (.tuple #[pt q, .int .i64 0]) ∧ IA w' q ⟨xs, xs, 0, 0⟩ F' ∧ Below w.heap.size w w' ∧ ∀ k ∈ F', w.heap.size ≤ k := by
 have hrd := h
 obtain ⟨ao, cap, rfl, hl, hm, hcap, hc⟩ := h
 have hxl : xs.length = n := by simpa [kV] using hl
 have HXL := Lib.hid hxl
 obtain ⟨hn1, hn2⟩ := hn
 clear hc hl hxl
 go_enter Tryz.func139, Tryz.ntmps139
 go_wp2_with fail
 refine (clone16 _ _ xs _ hrd (by omega)).mono ?_
 rintro e w1 ⟨v1, rfl, ho1, hb1⟩
 obtain ⟨a, c1, rfl, hga, r1⟩ := own_row ho1 (by omega)
 go_wp2_with fail
 refine (clone16 _ _ xs _ (hrd.below hb1) (by omega)).mono ?_
 rintro e w2 ⟨v2, rfl, ho2, hb2⟩
 have hx1 : 0 < xs.length := by rw [HXL.out]; omega
 obtain ⟨b, c2, rfl, hgb, r2⟩ := own_row ho2 (by omega)
 rw [← HXL.out] at r1 r2
 obtain ⟨F', hF, hge⟩ := box_area (A := ⟨xs, xs, 0, 0⟩) r1 hb1 hga r2 hb2 hgb
 rw [HXL.out] at hF
 have HF := Lib.hid hF
 clear hF
 go_wp2_with fail
 go_ret2
 exact ⟨_, F', rfl, HF.out, balloc (bthen hb1 hb2) _, hge⟩
end Go.Proofs.YtgmahhdnjikdjaaGreat
