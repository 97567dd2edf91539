/- The reference's Split of a row of sectors (sector by sector), walked. -/
import Derived.Test.YthkmihedkddnmaaGreatPartSame
namespace Go.Proofs.YthkmihedkddnmaaGreat
open Go.RowKit
set_option linter.unusedVariables false

theorem pSpans_len (a c : Nat) : (pSpans a c).length = pM a c := by simp [pSpans]
theorem pSpans_get {a c i : Nat} (h : i < pM a c) : (pSpans a c)[i]? = some (pSpan a c i) := by simp [pSpans, h]

theorem pM_eq {a c : Nat} (h : c ≠ 0) : pM a c = (a + c + 3) / 4 - a / 4 := if_neg h
theorem pM_zero (a : Nat) : pM a 0 = 0 := rfl

/-- One sector more opens a part. -/
theorem pSpans_new {a c : Nat} (h : c = 0 ∨ (a + c) % 4 = 0) : pSpans a (c + 1) = pSpans a c ++ [⟨(a + c) / 4, (a + c) % 4, (a + c) % 4 + 1⟩] := by
  have hm : pM a (c + 1) = pM a c + 1 := by
    rw [pM_eq (by omega)]
    by_cases h0 : c = 0
    · subst h0; rw [pM_zero]; omega
    · rw [pM_eq h0]; omega
  unfold pSpans
  rw [hm, List.range_succ, List.map_append, List.map_cons, List.map_nil]
  congr 1
  · apply List.map_congr_left
    intro i hi
    simp only [List.mem_range] at hi
    simp only [pSpan, PSpan.mk.injEq, true_and]
    unfold pTo
    unfold pM at hi
    split at hi <;> omega
  · simp only [pSpan, List.cons.injEq, PSpan.mk.injEq, and_true]
    unfold pBlk pFrom pTo pM
    rcases h with h | h <;> split <;> omega

/-- One sector more belongs to the last part. -/
theorem pSpans_ext {a c : Nat} (h0 : c ≠ 0) (h : (a + c) % 4 ≠ 0) : pM a (c + 1) = pM a c ∧ 1 ≤ pM a c ∧ (pSpan a c (pM a c - 1)).blk = (a + c) / 4 ∧
    pSpans a (c + 1) = (pSpans a c).set (pM a c - 1) ⟨(a + c) / 4, (pSpan a c (pM a c - 1)).lo, (a + c) % 4 + 1⟩ := by
  have hm : pM a (c + 1) = pM a c := by rw [pM_eq (by omega), pM_eq h0]; omega
  have hp : 1 ≤ pM a c := pM_pos (by omega)
  refine ⟨hm, hp, ?_, ?_⟩
  · simp only [pSpan, pBlk]; unfold pM at *; split <;> omega
  · apply List.ext_getElem?
    intro i
    rw [List.getElem?_set, pSpans_len]
    by_cases hi : i < pM a c
    · rw [pSpans_get (by omega), pSpans_get hi]
      by_cases he : pM a c - 1 = i
      · rw [if_pos he, if_pos (by omega)]
        simp only [pSpan, Option.some.injEq, PSpan.mk.injEq]
        rw [he]
        unfold pBlk pFrom pTo pM at *
        split at he <;> omega
      · rw [if_neg he]
        simp only [pSpan, Option.some.injEq, PSpan.mk.injEq, true_and]
        unfold pTo pM at *
        split at he <;> omega
    · rw [List.getElem?_eq_none (by rw [pSpans_len]; omega), List.getElem?_eq_none (by rw [pSpans_len]; omega)]
      split
      · rw [if_neg (by omega)]
      · rfl

theorem spansCells_set {l : List PSpan} {k : Nat} {s t : PSpan} (h : l[k]? = some s) (hb : t.blk = s.blk) (hl : t.lo = s.lo) : (spansCells l).set (k * 3 + 2) (.int .i64 t.hi) = spansCells (l.set k t) := by
  induction l generalizing k with
  | nil => simp at h
  | cons x l ih =>
    cases k with
    | zero =>
      simp at h; subst h
      simp [spansCells, spanCells, hb, hl]
    | succ k =>
      simp at h
      have := ih h
      have e : (k + 1) * 3 + 2 = k * 3 + 2 + 3 := by omega
      rw [e]
      simp only [spansCells, List.flatMap_cons, List.set_cons_succ] at *
      rw [← this]
      simp [spanCells]

set_option maxRecDepth 100000 in
set_option maxHeartbeats 1000000 in
theorem refPart_any (a c : Nat) (w : World) (h1 : 1 ≤ c) (h2 : c ≤ 5000) (h3 : a + c ≤ 1073741824) :
    Calls Tryz.prog 51 #[.int .i64 a, .int .i64 c] w fun e w' => ∃ v, e = .returned v ∧
      w'.ownsRow w.heap.size 100 3 v (pM a c) (spansCells (pSpans a c)) ∧ Below w.heap.size w w' := by
  go_enter Tryz.func51, Tryz.ntmps51
  go_wp2
  go_loopw [5, 6, 7] (fun v s _ wr => ∃ k : Nat, k ≤ c ∧ s = .int .i64 (a + k : Nat) ∧ wr.ownsRow w.heap.size 100 3 v (pM a k) (spansCells (pSpans a k)) ∧ Below w.heap.size w wr)
    (fun _ s _ _ => a + c - (intOf s).toNat)
  case atStart => exact ⟨0, by omega, rfl, World.ownsRow_nil _ _ _ _, Below.refl _ _⟩
  case round =>
    obtain ⟨k, hk, rfl, hown, hbel⟩ := hrel
    have hpm := @pM_le a k
    have hws := hbel.size
    by_cases hlt : k < c
    · by_cases hnew : k = 0 ∨ (a + k) % 4 = 0
      · have HN := Lib.hid (pSpans_new hnew)
        have hm1 : pM a (k + 1) = pM a k + 1 := by
          have := congrArg List.length (pSpans_new hnew)
          simpa [pSpans_len] using this
        have HM := Lib.hid hm1
        clear hm1
        obtain ⟨ao, cap, rfl, _, _, _, _⟩ := Rd.of_own hown
        have hq : (((a + k : Nat) : Int) / 4) = (((a + k) / 4 : Nat) : Int) := by omega
        have hr : (((a + k : Nat) : Int) % 4) = (((a + k) % 4 : Nat) : Int) := by omega
        by_cases hk0 : k = 0
        · subst hk0
          have hv0 : pM a 0 = 0 := rfl
          rw [hv0] at hown
          have h0 : ((0 : Int) == 0) = true := rfl
          go_wp2_with (at_builtin; go_must (refine wpList_app rfl _ _ 97 rfl w.heap.size 100 _ 3 24 Tryz.underlying97 infoSpan rfl (by decide) (by decide) _ _ _ rfl hown rfl rfl (by simp [Value.oneCell']) (by omega) hws ?_); intro v' w1 ho1 hb1 _ _ _)
          go_roundw
          case rel =>
            refine ⟨1, by omega, by go_num, ?_, hbel.trans hb1⟩
            rw [HN.out, HM.out, spansCells_snoc]
            simpa [spanCells, pM_zero] using ho1
          case measure => simp [intOf]; omega
        · have hpp := pM_pos (a := a) (show 1 ≤ k by omega)
          have hg := pSpans_get (a := a) (c := k) (i := pM a k - 1) (by omega)
          obtain ⟨c0, _, _⟩ := spansCells_get hg
          obtain ⟨g, rfl⟩ : ∃ g, ao = some ⟨g, 0, none⟩ := by
            rcases hown.2 with ⟨hv, hn⟩ | ⟨g, cap', cur, hv, _⟩
            · omega
            · simp at hv; exact ⟨g, hv.1⟩
          rw [← hown.cellAt _ (by omega)] at c0
          have hne : (((pSpan a k (pM a k - 1)).blk : Int) == (((a + k) / 4 : Nat) : Int)) = false := by
            have : (pSpan a k (pM a k - 1)).blk ≠ (a + k) / 4 := by
              simp only [pSpan, pBlk]; rw [pM_eq hk0]; omega
            simp; omega
          have hpm0 : (0 : Int) < (pM a k : Int) := by omega
          clear hg
          go_wp2_with (at_builtin; go_must (refine wpList_app rfl _ _ 97 rfl w.heap.size 100 _ 3 24 Tryz.underlying97 infoSpan rfl (by decide) (by decide) _ _ _ rfl hown rfl rfl (by simp [Value.oneCell']) (by omega) hws ?_); intro v' w1 ho1 hb1 _ _ _)
          go_roundw
          case rel =>
            refine ⟨k + 1, by omega, by go_num, ?_, hbel.trans hb1⟩
            rw [HN.out, HM.out, spansCells_snoc]
            simpa [spanCells, hq, hr] using ho1
          case measure => simp [intOf]; omega
      · have hk0 : k ≠ 0 := by omega
        have hk4 : (a + k) % 4 ≠ 0 := by omega
        obtain ⟨hm1, hpp, hblk, hext⟩ := pSpans_ext hk0 hk4
        have HB := Lib.hid hblk
        have HM := Lib.hid hm1
        have HX := Lib.hid hext
        have hg := pSpans_get (a := a) (c := k) (i := pM a k - 1) (by omega)
        have HG := Lib.hid hg
        have hq : (((a + k : Nat) : Int) / 4) = (((a + k) / 4 : Nat) : Int) := by omega
        have hr : (((a + k : Nat) : Int) % 4) = (((a + k) % 4 : Nat) : Int) := by omega
        obtain ⟨c0, _, c2⟩ := spansCells_get hg
        obtain ⟨g, cap, rfl⟩ : ∃ g cap, u5 = .slice (some ⟨g, 0, none⟩) (pM a k) cap := by
          rcases hown.2 with ⟨hv, hn⟩ | ⟨g, cap', cur, hv, _⟩
          · omega
          · exact ⟨g, cap', hv⟩
        rw [← hown.cellAt _ (by omega)] at c0 c2
        have hf := hown.frozenAt ((pM a k - 1) * 3 + 2)
        have heq : (((pSpan a k (pM a k - 1)).blk : Int) == (((a + k) / 4 : Nat) : Int)) = true := by simp; omega
        have hpm0 : (0 : Int) < (pM a k : Int) := by omega
        have HST := Lib.hid (hown.stored ((pM a k - 1) * 3 + 2) (.int .i64 (((a + k) % 4 : Nat) + 1 : Int)))
        clear hg hm1 hext hblk
        go_wp2
        go_roundw
        case rel =>
          obtain ⟨hs1, hs2⟩ := HST.out
          refine ⟨k + 1, by omega, by go_num, ?_, ?_⟩
          · rw [HX.out, HM.out, ← spansCells_set (t := ⟨(a + k) / 4, (pSpan a k (pM a k - 1)).lo, (a + k) % 4 + 1⟩) HG.out (by simp [HB.out]) rfl]
            simpa using hs1
          · exact hbel.grown hs2 hws (fun j hj => by have := (hown.lt j (by simpa [Value.ownBlock] using hj)).1; exact this)
        case measure => simp [intOf]; omega
    · obtain rfl : k = c := by omega
      go_wp2
      go_ret
      exact ⟨_, rfl, hown, hbel⟩
end Go.Proofs.YthkmihedkddnmaaGreat
