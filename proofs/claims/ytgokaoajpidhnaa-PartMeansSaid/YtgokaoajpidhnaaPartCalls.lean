/- part.Blocks, part.Split: walked over the iterator's contract. -/
import Derived.Test.YtgokaoajpidhnaaPartIt2
namespace Go.Proofs.Ytgokaoajpidhnaa
open Go.RowKit Go.Shelf
set_option linter.unusedVariables false
attribute [local go_sem] Oper.semAt_some

theorem over_in (F : Fence) (n : Nat) (h65 : F.fn 65) (hro : F.round = none) (a c : Int) (w : World) : CallsIn F n Try.prog 65 #[.int .i64 a, .int .i64 c] w fun e w' =>
    e = .returned (.func (.func 90) #[] #[.pointer (some ⟨w.heap.size, 0, none⟩), .pointer (some ⟨w.heap.size + 1, 0, none⟩)]) ∧ (w.alloc (.cells #[.int .i64 a] 3)).alloc (.cells #[.int .i64 c] 3) = w' := by
  refine callsIn_of_wp Try.func65 rfl h65 ?_ hro
  simp only [Try.ntmps65, List.size_toArray, List.length_cons, List.length_nil, Nat.reduceAdd, Nat.reduceSub, Array.replicate_succ, Array.replicate_zero, List.push_toArray, List.append_toArray, List.nil_append, List.cons_append]
  gi_wp2
  go_ret
  exact ⟨rfl, rfl⟩

theorem pItemsI_len_le (a c : Int) : (pItemsI a c).length ≤ 1073741824 := by
  unfold pItemsI
  split
  · rename_i h
    simp only [pOk, Bool.and_eq_true, decide_eq_true_eq] at h
    rw [pItems_len]
    have := @pM_le a.toNat c.toNat
    omega
  · simp

set_option maxRecDepth 100000 in
set_option maxHeartbeats 2000000 in
theorem blocks_in (a c : Int) (hc0 : -9223372036854775808 ≤ c) (w : World) :
    CallsIn Fence.wide 5 Try.prog 25 #[.int .i64 a, .int .i64 c] w fun e w' => e = .returned (.int .i64 (pItemsI a c).length) ∧ Below w.heap.size w w' := by
  have hro : Fence.wide.round = none := rfl
  have h1 : 1 ≤ 5 := by omega
  refine callsIn_of_wp_marks Try.func25 rfl trivial ?_ hro
  simp only [Try.ntmps25, List.size_toArray, List.length_cons, List.length_nil, Nat.reduceAdd, Nat.reduceSub, Array.replicate_succ, Array.replicate_zero, List.push_toArray, List.append_toArray, List.nil_append, List.cons_append]
  gi_wp2_with (refine ⟨trivial, ?_⟩; gi_at_call 65; refine (over_in _ _ trivial hro _ _ _).mono ?_; rintro e w' ⟨rfl, rfl⟩)
  have c0 := newCell w (.int .i64 0) 3
  have c1 := newCell (w.alloc (.cells #[.int .i64 0] 3)) (.int .i64 a) 3
  have c2 := newCell ((w.alloc (.cells #[.int .i64 0] 3)).alloc (.cells #[.int .i64 a] 3)) (.int .i64 c) 3
  simp only [World.size_alloc] at c1 c2
  have hB0 : Below w.heap.size w (((w.alloc (.cells #[.int .i64 0] 3)).alloc (.cells #[.int .i64 a] 3)).alloc (.cells #[.int .i64 c] 3)) := balloc (balloc (balloc (Below.refl _ _) _) _) _
  refine wpIn_rangeFunc_ownF hro h1 (gf := 90) (lb := #[.pointer (some ⟨w.heap.size + 1, 0, none⟩), .pointer (some ⟨w.heap.size + 1 + 1, 0, none⟩)]) rfl trivial (enters_of Try.func90 (by kernel_rfl) rfl)
    (overI_stops Fence.wide (5 - 1) trivial hro (by omega) (w.heap.size + 1) a c hc0 _ (by simp) (fun _ k => k = w.heap.size) (fun _ _ _ _ h => h) (fun W hW => ⟨fun k hk => by have := hW.size; simp at this; omega, by omega, by omega⟩) (cellAlloc _ c1.1) c2.1)
    KpF.trans (KpF.put (fun _ _ _ _ _ _ _ _ h => h)) (Below.refl _ _) (fun _ => rfl)
    (fun pre W => (W.cell? ⟨w.heap.size, 0, none⟩ = some (.int .i64 pre.length) ∧ W.frozen? ⟨w.heap.size, 0, none⟩ = false) ∧ Below w.heap.size w W)
    (fun _ _ _ => False)
    (OwnFrom.and (Own.from (fun s A B row hs hg hr => ⟨cell_kept hs.1 hg hr, (frozen_kept hs.1 hg hr).trans hs.2⟩) _) (ownFrom_below (Nat.le_refl _) (by simp; omega)))
    (fun _ _ _ _ _ hs _ _ => hs)
    ⟨⟨cellAlloc _ (cellAlloc _ c0.1), frozenAlloc _ (cellAlloc _ c0.1) (frozenAlloc _ c0.1 c0.2)⟩, hB0⟩
    (fun x => { tmps := #[.int .i64 a, .int .i64 c, undef, undef, .int .i64 0, .pointer (some ⟨w.heap.size, 0, none⟩), .int .i64 a, .int .i64 c, .func (.func 90) #[] #[.pointer (some ⟨w.heap.size + 1, 0, none⟩), .pointer (some ⟨w.heap.size + 1 + 1, 0, none⟩)], .int .i64 x.1, spanV x.2, undef, undef, undef], defers := [] }) ?assign ?body ?done ?stop
  case assign =>
    intro l x W K hK
    gi_wp2
    simpa [itemVs] using hK
  case body =>
    rintro l pre x W ⟨⟨hc, hf⟩, hB⟩ hlt
    have hlen : (pItemsI a c).length ≤ 1073741824 := pItemsI_len_le a c
    gi_wp2
    refine ⟨KeepsOthers.setCell _ _ _, KpF.setCell _ _ rfl (fun k h => h), ⟨?_, by rw [World.frozen?_setCell]; exact hf⟩, hB.setCell (p := ⟨w.heap.size, 0, none⟩) (Nat.le_refl _) _⟩
    rw [World.cell?_setCell_same' _ _ _ (by rw [hc]; rfl)]
    simp
  case done =>
    rintro D ys W hD rfl ⟨⟨hc, _⟩, hB⟩ hK
    gi_wp2
    refine ⟨by simp, .inl ⟨_, _, rfl, run_takeDeferred hK, ?_⟩⟩
    exact ⟨_, results_tmp rfl _ _ _, rfl, hB.trans (belowK_b (w := w) (Nat.le_refl _) W D _ _ (by simp at hD; omega) hK rfl rfl)⟩
  case stop =>
    rintro D c pre W _ _ h _
    exact h.elim
end Go.Proofs.Ytgokaoajpidhnaa
