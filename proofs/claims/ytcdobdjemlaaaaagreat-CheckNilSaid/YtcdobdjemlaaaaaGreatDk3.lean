/- Disks: New, walked. -/
import Derived.Test.YtcdobdjemlaaaaaGreatDk2
namespace Go.Proofs.YtcdobdjemlaaaaaGreat
open Go.RowKit Wire
set_option linter.unusedVariables false
set_option linter.unusedSimpArgs false

theorem infoSec4 : (Tryz.prog.info? 168).map (fun i => (i.zero, i.size, i.bytes)) = some (some (.agg (List.replicate 64 (Value.int .u8 0)).toArray), 64, 64) := by kernel_rfl
theorem made_rep (v : Value) (k n : Nat) (hk : 0 < k) : (madeCells (List.replicate k v).toArray n).toList = List.replicate n v := by
  rw [List.eq_replicate_iff]
  refine ⟨by rw [Array.length_toList, size_madeCells], fun x hx => ?_⟩
  unfold madeCells at hx
  simp only [Array.toList_map, List.mem_map] at hx
  obtain ⟨i, _, rfl⟩ := hx
  have h1 : i % (List.replicate k v).toArray.size < (List.replicate k v).toArray.size := Nat.mod_lt _ (by simpa using hk)
  rw [getElem!_pos (List.replicate k v).toArray _ h1]
  simp
theorem secsC_zeros (n : Nat) : secsC (List.replicate n (zeros 64)) = List.replicate (n * 64) (Value.int .u8 0) := by
  induction n with
  | zero => rfl
  | succ n ih =>
    rw [List.replicate_succ]
    show bV (zeros 64) ++ secsC (List.replicate n (zeros 64)) = _
    rw [ih, show (n + 1) * 64 = 64 + n * 64 by omega, ← List.replicate_append_replicate]
    congr 1
/-- A new disk. -/
def dk0 (n : Nat) : Dk := ⟨List.replicate n (zeros 64), [], -1, false⟩
set_option maxRecDepth 100000 in
set_option maxHeartbeats 3200000 in
theorem dknew_no (w : World) (n : Int) (h : n < 1 ∨ 8192 < n) : Calls Tryz.prog 46 #[.int .i64 n] w fun e w' => e = .returned (.tuple #[.pointer none, .int .i64 2]) ∧ w = w' := by
  rcases h with h | h
  · go_enter Tryz.func46, Tryz.ntmps46
    go_wp2_with fail
    go_ret2
    exact ⟨rfl, rfl⟩
  · have h1 : ¬ n < 1 := by omega
    go_enter Tryz.func46, Tryz.ntmps46
    go_wp2_with fail
    go_ret2
    exact ⟨rfl, rfl⟩
theorem dknew_at (w : World) (n : Nat) (h1 : 1 ≤ n) (h2 : n ≤ 8192) : Calls Tryz.prog 46 #[.int .i64 (n : Int)] w fun e w' => ∃ B iv, e = .returned (.tuple #[.pointer (some ⟨B, 0, none⟩), .int .i64 0]) ∧ DkAt w.heap.size w' B iv (.slice none 0 0) (dk0 n) ∧ Below w.heap.size w w' := by
  go_enter Tryz.func46, Tryz.ntmps46
  go_upto_region 3 with fail
  go_wp2_with (refine wpList_mk rfl _ _ 161 rfl w.heap.size 168 _ 64 64 Tryz.underlying161 infoSec4 (by decide) .i64 .i64 (n : Int) (n : Int) n rfl rfl rfl rfl (by omega) (Nat.le_refl _) ?_; intro w1 ho1 hb1)
  go_ret2
  rw [show (Value.agg (List.replicate 64 (Value.int .u8 0)).toArray).cells = (List.replicate 64 (Value.int .u8 0)).toArray from rfl, made_rep _ _ _ (by decide), ← secsC_zeros] at ho1
  have hb2 : Below w1.heap.size w1 (w1.alloc (.cells #[.slice (some ⟨w.heap.size, 0, none⟩) n n, .slice none 0 0, .int .i64 (-1), .bool false] 164)) := balloc (Below.refl _ _) _
  refine ⟨w1.heap.size, .slice (some ⟨w.heap.size, 0, none⟩) n n, rfl, ⟨heap_alloc_new _ _, ?_, World.ownsRow_nil _ _ _ _, fun s hs => ?_, fun p hp => (by cases hp), hb1.size⟩, bthn hb1 hb2⟩
  · have h3 := ownsRow_below ho1 hb2
    show (w1.alloc _).ownsRow _ _ _ _ (List.replicate n (zeros 64)).length _
    rw [List.length_replicate]
    exact h3
  · rw [List.eq_of_mem_replicate hs]
    exact List.length_replicate
end Go.Proofs.YtcdobdjemlaaaaaGreat
