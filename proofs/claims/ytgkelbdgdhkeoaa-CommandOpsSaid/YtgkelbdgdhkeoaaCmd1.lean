/- What clients ask: names, Same, within, walked; slices.Equal at []byte. -/
import Derived.Deep.DeepCutAuto
import Derived.Test.YtgkelbdgdhkeoaaCmd0
import Derived.Test.YtgkelbdgdhkeoaaBytes
import Derived.Test.YtgkelbdgdhkeoaaWire1
namespace Go.Proofs.Ytgkelbdgdhkeoaa
open Go.RowKit
set_option linter.unusedVariables false
set_option linter.unusedSimpArgs false
open Wire Cmd

/-- An operation's cells; by value. -/
def oC (o : Op0) (sl : Value) : Array Value := #[.int .i64 o.k, .int .u64 (o.vol : Int), .int .u64 (o.to : Int), .int .i64 o.size, .int .i64 o.pl, .int .i64 o.count, sl]

set_option maxRecDepth 100000 in
set_option maxHeartbeats 3200000 in
theorem names_any (k : Int) (w : World) : Calls Try.prog 87 #[.int .i64 k] w fun e w' => e = .returned (.string (strB (nm k))) ∧ Below w.heap.size w w' := by
  by_cases h1 : k < 1
  · rw [nm_no (.inl h1)]
    go_enter Try.func87, Try.ntmps87
    go_wp2_with fail
    go_ret
    exact ⟨rfl, balloc (Below.refl _ _) _⟩
  by_cases h2 : 10 ≤ k
  · rw [nm_no (.inr h2)]
    go_enter Try.func87, Try.ntmps87
    go_wp2_with fail
    go_ret
    exact ⟨rfl, balloc (Below.refl _ _) _⟩
  have hc : k = 1 ∨ k = 2 ∨ k = 3 ∨ k = 4 ∨ k = 5 ∨ k = 6 ∨ k = 7 ∨ k = 8 ∨ k = 9 := by omega
  clear h1 h2
  rcases hc with rfl | rfl | rfl | rfl | rfl | rfl | rfl | rfl | rfl
  all_goals
    go_enter Try.func87, Try.ntmps87
    go_wp2_with fail
    go_ret
    exact ⟨rfl, balloc (Below.refl _ _) _⟩

set_option maxRecDepth 100000 in
set_option maxHeartbeats 1600000 in
theorem equal8 (u v : Value) (n m : Nat) (xs ys : List UInt8) (w : World) (hu : Rd w 1 u n (bV xs)) (hv : Rd w 1 v m (bV ys)) :
    Calls Try.prog 89 #[u, v] w fun e w' => e = .returned (.bool (xs == ys)) ∧ Below w.heap.size w w' := by
  have hxl : xs.length = n := by obtain ⟨_, _, _, hl, _⟩ := hu; simpa [bV] using hl
  have hyl : ys.length = m := by obtain ⟨_, _, _, hl, _⟩ := hv; simpa [bV] using hl
  obtain ⟨ao, ca, rfl, _, hm1, _, hc1⟩ := hu
  obtain ⟨bo, cb, rfl, _, hm2, _, hc2⟩ := hv
  unfold maxLen at hm1 hm2
  have HX := Lib.hid hxl
  have HY := Lib.hid hyl
  have H1 := Lib.hid hc1
  have H2 := Lib.hid hc2
  clear hxl hyl hc1 hc2
  by_cases hnm : n = m
  · subst hnm
    have hne : ((n : Int) != (n : Int)) = false := by simp
    go_enter Try.func89, Try.ntmps89
    go_wp2_with fail
    clear hne
    go_loopw [13] (fun i wr => ∃ k : Nat, k ≤ n ∧ i = .int .i64 (k : Int) ∧ xs.take k = ys.take k ∧ Below w.heap.size w wr) (fun i _ => n - (intOf i).toNat)
    case atStart => exact ⟨0, by omega, rfl, by simp, Below.refl _ _⟩
    case round =>
      obtain ⟨k, hk, rfl, htk, hb⟩ := hrel
      have HT := Lib.hid htk
      have HB := Lib.hid hb
      clear htk hb
      by_cases hlt : k < n
      · obtain ⟨x, hx⟩ : ∃ x, xs[k]? = some x := ⟨_, List.getElem?_eq_getElem (by rw [HX.out]; exact hlt)⟩
        obtain ⟨y, hy⟩ : ∃ y, ys[k]? = some y := ⟨_, List.getElem?_eq_getElem (by rw [HY.out]; exact hlt)⟩
        obtain ⟨b1, o1, rfl, hl1, hcx⟩ := H1.out k _ (bV_get hx)
        obtain ⟨b2, o2, rfl, hl2, hcy⟩ := H2.out k _ (bV_get hy)
        have hx' : wr.cell? ⟨b1, o1 + k, none⟩ = some (.int .u8 (x.toNat : Int)) := (HB.out.cell (p := ⟨b1, o1 + k, none⟩) hl1).trans hcx
        have hy' : wr.cell? ⟨b2, o2 + k, none⟩ = some (.int .u8 (y.toNat : Int)) := (HB.out.cell (p := ⟨b2, o2 + k, none⟩) hl2).trans hcy
        have HXY := Lib.hid (And.intro hx hy)
        clear hx hy hcx hcy
        by_cases hxy : x = y
        · subst hxy
          have hne : ((x.toNat : Int) != (x.toNat : Int)) = false := by simp
          have HT2 : Hid (xs.take (k + 1) = ys.take (k + 1)) := Lib.hid (by rw [List.take_add_one, List.take_add_one, HT.out, HXY.out.1, HXY.out.2])
          go_wp2_with fail
          go_quiet (fail)
          go_wp2_with fail
          go_roundw
          case rel => exact ⟨k + 1, by omega, by go_num, HT2.out, below_drewN HB.out _⟩
          case measure => simp [intOf]; omega
        · have hne : ((x.toNat : Int) != (y.toNat : Int)) = true := by
            rw [bne_iff_ne]; intro h; exact hxy (UInt8.toNat_inj.1 (by omega))
          have HE : Hid ((xs == ys) = false) := Lib.hid (by
            rw [beq_eq_false_iff_ne]
            rintro rfl
            have h1 := HXY.out.1
            rw [HXY.out.2] at h1
            exact hxy (Option.some.inj h1).symm)
          go_wp2_with fail
          go_quiet (fail)
          go_wp2_with fail
          go_ret
          exact ⟨by rw [HE.out]; rfl, below_drewN HB.out _⟩
      · obtain rfl : k = n := by omega
        have HE : Hid ((xs == ys) = true) := Lib.hid (by
          rw [beq_iff_eq]
          have h1 := HT.out
          rw [List.take_of_length_le (by rw [HX.out]; exact Nat.le_refl _), List.take_of_length_le (by rw [HY.out]; exact Nat.le_refl _)] at h1
          exact h1)
        go_wp2_with fail
        go_ret
        exact ⟨by rw [HE.out]; rfl, HB.out⟩
  · have hne : ((n : Int) != (m : Int)) = true := by rw [bne_iff_ne]; omega
    have HE : Hid ((xs == ys) = false) := Lib.hid (by
      rw [beq_eq_false_iff_ne]
      rintro rfl
      exact hnm (by rw [← HX.out, ← HY.out]))
    clear hnm
    go_enter Try.func89, Try.ntmps89
    go_wp2_with fail
    go_ret
    exact ⟨by rw [HE.out]; rfl, Below.refl _ _⟩
end Go.Proofs.Ytgkelbdgdhkeoaa
