/- PartData: the walk of the law itself. -/
import Derived.Test.YtgokaoajpidhnaaPartDataR
import Derived.Test.YtgokaoajpidhnaaPartRows
import Derived.Deep.RegionHeld3
namespace Go.Proofs.Ytgokaoajpidhnaa
open Go.RowKit
set_option linter.unusedVariables false

/-- A row of bytes whose values are whatever numbers. -/
def nV (zs : List Int) : List Value := zs.map (Value.int .u8)

set_option maxRecDepth 100000 in
set_option maxHeartbeats 2000000 in
theorem partData_walk (blk f t at_ : Int) (v : Value) (n : Nat) (bs : List UInt8) (w : World) (h : Rd w 1 v n (bV bs)) :
    Calls Try.prog 5 #[.agg #[.int .i64 blk, .int .i64 f, .int .i64 t], .int .i64 at_, v] w fun e w' => e = .returned (.bool true) ∧ Below w.heap.size w w' := by
  have hrd := h
  obtain ⟨ao, cap, rfl, hl, hm, ⟨hcn, hnc, hcm⟩, hc⟩ := h
  rw [bV_len, Nat.mul_one] at hl
  by_cases hbig : 5000 < n
  · go_enter Try.func5, Try.ntmps5
    go_wp2_with fail
    refine (known12 _).mono ?_
    rintro e w1 ⟨rfl, hb1⟩
    go_wp2_with fail
    go_ret
    exact ⟨rfl, bthen (balloc (Below.refl _ _) _) hb1⟩
  · have hn : n ≤ 140737488355328 := by omega
    have hs0 : (w.alloc (.cells #[.int .i64 blk, .int .i64 f, .int .i64 t] 28)).heap[w.heap.size]? = some (.cells #[.int .i64 blk, .int .i64 f, .int .i64 t] 28 (0, 0)) := heap_alloc_new w _
    have hrd1 := hrd.below (balloc (Below.refl _ w) (.cells #[.int .i64 blk, .int .i64 f, .int .i64 t] 28))
    have hB0 : Below w.heap.size w (w.alloc (.cells #[.int .i64 blk, .int .i64 f, .int .i64 t] 28)) := balloc (Below.refl _ w) _
    go_enter Try.func5, Try.ntmps5
    go_wp2_with (at_builtin; go_must (refine wpList_apps rfl _ _ 36 rfl (w.heap.size + 1) 5 _ 1 1 Try.underlying36 infoByte rfl (by decide) (by decide) _ 0 [] rfl (World.ownsRow_nil _ _ _ _) _ n (bV bs) rfl hrd1 (bV_one bs) (by omega) (by simp) ?_); intro vo w1 ho1 hb1 _ _ _; have hs1 : w1.heap[w.heap.size]? = some (.cells #[.int .i64 blk, .int .i64 f, .int .i64 t] 28 (0, 0)) := (hb1.block w.heap.size (by simp)).trans hs0; have c0 : w1.cell? ⟨w.heap.size, 0, none⟩ = some (.int .i64 blk) := (by rw [cell_of_row w1 _ 0 _ _ _ hs1]; rfl); have c1 : w1.cell? ⟨w.heap.size, 1, none⟩ = some (.int .i64 f) := (by rw [cell_of_row w1 _ 1 _ _ _ hs1]; rfl); have c2 : w1.cell? ⟨w.heap.size, 2, none⟩ = some (.int .i64 t) := (by rw [cell_of_row w1 _ 2 _ _ _ hs1]; rfl); clear hs0 hs1)
    have hB1 := hB0.trans (hb1.mono (Nat.le_succ _))
    simp only [Nat.zero_add, List.nil_append] at ho1
    refine (partData_any _ _ _ _ _ n bs _ (Rd.of_own ho1) hn).mono ?_
    rintro e w2 ⟨vx, rfl, ho2, hb2⟩
    have hlt1 := World.block_lt_of_cell? w1 _ c0
    have d0 : w2.cell? ⟨w.heap.size, 0, none⟩ = some (.int .i64 blk) := (hb2.cell (p := ⟨w.heap.size, 0, none⟩) hlt1).trans c0
    have d1 : w2.cell? ⟨w.heap.size, 1, none⟩ = some (.int .i64 f) := (hb2.cell (p := ⟨w.heap.size, 1, none⟩) hlt1).trans c1
    have d2 : w2.cell? ⟨w.heap.size, 2, none⟩ = some (.int .i64 t) := (hb2.cell (p := ⟨w.heap.size, 2, none⟩) hlt1).trans c2
    have hrx := Rd.of_own ho2
    go_wp2_with fail
    obtain ⟨xs, hxs⟩ : ∃ xs, xs = dataI bs blk at_ f t := ⟨_, rfl⟩
    have hxl : xs.length ≤ n := by
      rw [hxs]; unfold dataI; split
      · rw [← hl]; exact dataP_len _ _ _ _ _
      · simp
    rw [← hxs] at ho2 hrx
    have HXS := Lib.hid hxs
    clear hxs
    obtain ⟨aox, capx, rfl, _, _, _, _⟩ := hrx
    have hrx := Rd.of_own ho2
    have hcv := run_text w2.drew _ _ xs hrx
    have hneq : ((strB xs).toList != (strB xs).toList) = false := by simp
    go_region_with (first
        | (go_at_call 28; refine (refData_any _ _ _ _ _ n bs _ ((hrd.below hB1).below hb2.drew) (by omega)).mono ?_; rintro e w3 ⟨vy, rfl, ho3, hbx⟩; rw [← HXS.out] at ho3; have hcw := run_text w3 vy _ xs (Rd.of_own ho3); have hb23 := bthen ((Below.refl _ w2).drew) hbx; have hcx := run_text w3 _ _ xs (hrx.below hb23))
        | fail)
    all_goals
      obtain ⟨aoy, capy, rfl, _, _, _, _⟩ := Rd.of_own ho3
      have ho2' := ownsRow_below ho2 hb23
      clear hcw hcx hcv ho3
      go_wp2_with fail
      go_loopw [9] (fun i wr => ∃ (k : Nat) (zs : List Int), k ≤ xs.length ∧ i = .int .i64 k ∧ zs.length = xs.length ∧ wr.ownsRow w1.heap.size 5 1 (.slice aox xs.length capx) xs.length (nV zs) ∧ Below w1.heap.size w1 wr)
        (fun i _ => xs.length - (intOf i).toNat)
      case atStart =>
        exact ⟨0, xs.map fun b => (b.toNat : Int), by omega, rfl, by simp, by rw [show nV (xs.map fun b => (b.toNat : Int)) = bV xs from by simp [nV, bV, Function.comp_def]]; exact ho2', hb2.trans (hb23.mono hb2.size)⟩
      case round =>
        obtain ⟨k, zs, hk, rfl, hzl, hown, hbel⟩ := hrel
        by_cases hlt : k < xs.length
        · obtain ⟨g, rfl⟩ : ∃ g, aox = some ⟨g, 0, none⟩ := by
            rcases hown.2 with ⟨hv, hn0⟩ | ⟨g, cap', cur, hv, _⟩
            · omega
            · simp at hv; exact ⟨g, hv.1⟩
          obtain ⟨z, hz⟩ : ∃ z, zs[k]? = some z := ⟨_, List.getElem?_eq_getElem (by omega)⟩
          have hcell := hown.cellAt k (by omega)
          have hfz := hown.frozenAt k
          have hx : (nV zs)[k]? = some (.int .u8 z) := by simp [nV, hz]
          rw [hx] at hcell
          have hge := (hown.lt g rfl).1
          have HST := Lib.hid (fun u => hown.stored k u)
          clear hx hz ho2' hown
          go_wp2_with fail
          go_roundw
          case rel =>
            refine ⟨k + 1, zs.set k ((z + 1) % 256), by omega, by go_num, by simpa using hzl, ?_, hbel.setCell (p := ⟨g, k, none⟩) hge _⟩
            have := (HST.out (.int .u8 ((z + 1) % 256))).1
            simpa [nV, List.map_set] using this
          case measure => simp [intOf]; omega
        · have hro := (Rd.of_own ho1).below hbel
          have ht1 := run_text wr _ _ _ hro
          have ht2 := run_text wr _ _ _ ((hrd.below hB1).below hbel)
          obtain ⟨aov, capv, rfl, _, _, _, _⟩ := hro
          have heqt : ((strB bs).toList == (strB bs).toList) = true := by simp
          have hbw := bthen hB1 hbel
          go_wp2_with fail
          refine (known12 _).mono ?_
          rintro e w4 ⟨rfl, hb4⟩
          go_wp2_with fail
          go_ret
          exact ⟨rfl, bthen hbw hb4⟩
end Go.Proofs.Ytgokaoajpidhnaa
