/- The law's own comparison of two rows of parts, walked. -/
import Derived.Test.YtgokaoajpidhnaaPartSplit
namespace Go.Proofs.Ytgokaoajpidhnaa
open Go.RowKit
set_option linter.unusedVariables false

theorem spansCells_get {l : List PSpan} {k : Nat} {s : PSpan} (h : l[k]? = some s) : (spansCells l)[k * 3]? = some (.int .i64 s.blk) ∧ (spansCells l)[k * 3 + 1]? = some (.int .i64 s.lo) ∧ (spansCells l)[k * 3 + 2]? = some (.int .i64 s.hi) := by
  induction l generalizing k with
  | nil => simp at h
  | cons t l ih =>
    cases k with
    | zero =>
      simp at h; subst h
      simp [spansCells, spanCells]
    | succ k =>
      simp at h
      have := ih h
      have e0 : (k + 1) * 3 = 3 + k * 3 := by omega
      have e1 : (k + 1) * 3 + 1 = 3 + (k * 3 + 1) := by omega
      have e2 : (k + 1) * 3 + 2 = 3 + (k * 3 + 2) := by omega
      have g : ∀ j, (spansCells (t :: l))[3 + j]? = (spansCells l)[j]? := by
        intro j
        simp only [spansCells, List.flatMap_cons]
        rw [List.getElem?_append_right (by simp [spanCells])]
        simp [spanCells]
      rw [e1, e2, e0, g, g, g]
      exact this

/-- Element k of a row of parts that can be read: its three cells. -/
theorem rd_span {w : World} {ao : Option Addr} {l : List PSpan} (hc : ∀ j u, (spansCells l)[j]? = some u → ∃ b off, ao = some ⟨b, off, none⟩ ∧ b < w.heap.size ∧ w.cell? ⟨b, off + j, none⟩ = some u) {k : Nat} {s : PSpan} (h : l[k]? = some s) :
    ∃ b off, ao = some ⟨b, off, none⟩ ∧ b < w.heap.size ∧ w.cell? ⟨b, off + k * 3, none⟩ = some (.int .i64 s.blk) ∧ w.cell? ⟨b, off + k * 3 + 1, none⟩ = some (.int .i64 s.lo) ∧ w.cell? ⟨b, off + k * 3 + 2, none⟩ = some (.int .i64 s.hi) := by
  obtain ⟨h0, h1, h2⟩ := spansCells_get h
  obtain ⟨b, off, e0, hb, c0⟩ := hc _ _ h0
  obtain ⟨b1, off1, e1, _, c1⟩ := hc _ _ h1
  obtain ⟨b2, off2, e2, _, c2⟩ := hc _ _ h2
  subst e0
  obtain ⟨rfl, rfl⟩ : b = b1 ∧ off = off1 := by simpa using e1
  obtain ⟨rfl, rfl⟩ : b = b2 ∧ off = off2 := by simpa using e2
  exact ⟨b, off, rfl, hb, c0, c1, c2⟩

set_option maxRecDepth 100000 in
set_option maxHeartbeats 1000000 in
theorem sameSpans_any (u v : Value) (n m : Nat) (xs ys : List PSpan) (w : World) (hu : Rd w 3 u n (spansCells xs)) (hv : Rd w 3 v m (spansCells ys)) :
    Calls Try.prog 22 #[u, v] w fun e w' => e = .returned (.bool (decide (xs = ys))) ∧ Below w.heap.size w w' := by
  obtain ⟨ao, ca, rfl, hl, hm, _, hc⟩ := hu
  obtain ⟨bo, cb, rfl, hl', hm', _, hc'⟩ := hv
  have hxl : xs.length = n := by rw [spansCells_len] at hl; omega
  have hyl : ys.length = m := by rw [spansCells_len] at hl'; omega
  have HXL := Lib.hid hxl
  have HYL := Lib.hid hyl
  clear hxl hyl hl hl'
  unfold maxLen at hm hm'
  by_cases hnm : n = m
  · subst hnm
    go_enter Try.func22, Try.ntmps22
    go_wp2
    go_loopw [5] (fun i wr => ∃ k : Nat, k ≤ n ∧ i = .int .i64 k ∧ xs.take k = ys.take k ∧ Below w.heap.size w wr) (fun i _ => n - (intOf i).toNat)
    case atStart => exact ⟨0, by omega, rfl, by simp, Below.refl _ _⟩
    case round =>
      obtain ⟨k, hk, rfl, htk, hbel⟩ := hrel
      have HT := Lib.hid htk
      clear htk
      by_cases hlt : k < n
      · obtain ⟨x, hx⟩ : ∃ x, xs[k]? = some x := ⟨_, List.getElem?_eq_getElem (by rw [HXL.out]; exact hlt)⟩
        obtain ⟨y, hy⟩ : ∃ y, ys[k]? = some y := ⟨_, List.getElem?_eq_getElem (by rw [HYL.out]; exact hlt)⟩
        obtain ⟨b, off, rfl, hb, x0, x1, x2⟩ := rd_span hc hx
        obtain ⟨b', off', rfl, hb', y0, y1, y2⟩ := rd_span hc' hy
        have x0' := (hbel.cell (p := ⟨b, off + k * 3, none⟩) hb).trans x0
        have x1' := (hbel.cell (p := ⟨b, off + k * 3 + 1, none⟩) hb).trans x1
        have x2' := (hbel.cell (p := ⟨b, off + k * 3 + 2, none⟩) hb).trans x2
        have y0' := (hbel.cell (p := ⟨b', off' + k * 3, none⟩) hb').trans y0
        have y1' := (hbel.cell (p := ⟨b', off' + k * 3 + 1, none⟩) hb').trans y1
        have y2' := (hbel.cell (p := ⟨b', off' + k * 3 + 2, none⟩) hb').trans y2
        have HX := Lib.hid hx
        have HY := Lib.hid hy
        clear hx hy hc hc' x0 x1 x2 y0 y1 y2
        by_cases hxy : x = y
        · subst hxy
          go_wp2
          go_quiet (fail)
          go_wp2
          go_roundw
          case rel => exact ⟨k + 1, by omega, by go_num, by rw [List.take_add_one, List.take_add_one, HT.out, HX.out, HY.out], below_drewN hbel _⟩
          case measure => simp [intOf]; omega
        · have hne : xs ≠ ys := by intro h; subst h; have := HX.out.symm.trans HY.out; simp at this; exact hxy this
          have hd : decide (xs = ys) = false := by simp [hne]
          have HD := Lib.hid hd
          clear hne hd
          obtain ⟨xb, xl, xh⟩ := x
          obtain ⟨yb, yl, yh⟩ := y
          simp only [PSpan.mk.injEq] at hxy
          dsimp only at *
          by_cases e0 : xb = yb
          · subst e0
            by_cases e1 : xl = yl
            · subst e1
              have e2 : ((xh : Int) == (yh : Int)) = false := by simp at hxy ⊢; omega
              clear hxy
              go_wp2
              go_quiet (fail)
              go_wp2
              go_ret
              exact ⟨by rw [HD.out]; rfl, below_drewN hbel _⟩
            · have e2 : ((xl : Int) == (yl : Int)) = false := by simp; omega
              clear hxy
              go_wp2
              go_quiet (fail)
              go_wp2
              go_ret
              exact ⟨by rw [HD.out]; rfl, below_drewN hbel _⟩
          · have e2 : ((xb : Int) == (yb : Int)) = false := by simp; omega
            clear hxy
            go_wp2
            go_quiet (fail)
            go_wp2
            go_ret
            exact ⟨by rw [HD.out]; rfl, below_drewN hbel _⟩
      · go_wp2
        go_ret
        refine ⟨?_, hbel⟩
        have : xs = ys := by
          have h := HT.out
          rw [List.take_of_length_le (by rw [HXL.out]; omega), List.take_of_length_le (by rw [HYL.out]; omega)] at h
          exact h
        simp [this]
  · have hnm' : ((n : Int) != (m : Int)) = true := by simp; omega
    go_enter Try.func22, Try.ntmps22
    go_wp2
    go_ret
    have : xs ≠ ys := by intro h; subst h; exact hnm (HXL.out.symm.trans HYL.out)
    exact ⟨by simp [this], Below.refl _ _⟩
end Go.Proofs.Ytgokaoajpidhnaa
