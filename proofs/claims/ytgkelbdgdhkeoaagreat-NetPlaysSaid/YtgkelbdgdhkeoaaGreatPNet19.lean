/- Nets: Waiting, walked. -/
import Derived.Test.YtgkelbdgdhkeoaaGreatPNet18
namespace Go.Proofs.YtgkelbdgdhkeoaaGreat
open Go.RowKit Go.Shelf
set_option linter.unusedVariables false
set_option linter.unusedSimpArgs false
attribute [local go_sem] Oper.semAt_some
set_option maxRecDepth 100000 in
set_option maxHeartbeats 3200000 in
theorem waiting_in (w : World) (v : Value) (l : List (Nat × Int)) (hl : l.length ≤ 1000000) (hC : ∀ W, Below w.heap.size w W → Calls Tryz.prog 34 #[v] W (WaitsP W l)) :
  CallsIn Fence.wide 5 Tryz.prog 19 #[v] w fun e w' => e = .returned (.int .i64 (l.length : Int)) ∧ Below w.heap.size w w' := by
 have hro : Fence.wide.round = none := rfl
 have h1 : 1 ≤ 5 := by omega
 have HC := Lib.hid (hC _ (balloc (Below.refl _ w) (.cells #[.int .i64 0] 3)))
 clear hC
 refine callsIn_of_wp_marks Tryz.func19 rfl trivial ?_ hro
 simp only [Tryz.ntmps19, List.size_toArray, List.length_cons, List.length_nil, Nat.reduceAdd, Nat.reduceSub, Array.replicate_succ, Array.replicate_zero, List.push_toArray, List.append_toArray, List.nil_append, List.cons_append]
 gi_wp2_with (refine ⟨trivial, ?_⟩; gi_at_call 34; refine (callsIn_wide.2 HC.out).mono ?_; rintro e w2 ⟨Bo, S, rfl, hit, hS, hb⟩)
 have c0 := newCell w (.int .i64 0) 3
 have hs2 := hb.size
 simp only [World.size_alloc] at hs2 hS
 have hB0 : Below w.heap.size w w2 := bthen (balloc (Below.refl _ _) _) hb
 have cc : w2.cell? ⟨w.heap.size, 0, none⟩ = some (.int .i64 0) := (hb.cell (p := ⟨w.heap.size, 0, none⟩) (by simp)).trans c0.1
 have cf : w2.frozen? ⟨w.heap.size, 0, none⟩ = false := by
  refine frozen_of_row _ w.heap.size 0 #[.int .i64 0] 3 ((hb.block _ (by simp)).trans (heap_alloc_new w _))
 refine wpIn_rangeFunc_ownF hro h1 (gf := 49) (lb := #[.pointer (some ⟨Bo, 0, none⟩)]) rfl trivial (enters_of Tryz.func49 (by kernel_rfl) rfl)
  (waits_stops (5 - 1) (by omega) Bo S l w2 hit (fun k => k = w.heap.size) (fun k hk => by omega) (fun k hk e => by have := hS k hk; omega))
  KpF.trans (KpF.put (fun _ _ _ _ _ _ _ _ h => h)) (Below.refl _ _) (fun _ => rfl)
  (fun pre W => (W.cell? ⟨w.heap.size, 0, none⟩ = some (.int .i64 pre.length) ∧ W.frozen? ⟨w.heap.size, 0, none⟩ = false) ∧ Below w.heap.size w W)
  (fun _ _ _ => False)
  (OwnFrom.and (Own.from (fun s A B row hs hg hr => ⟨cell_kept hs.1 hg hr, (frozen_kept hs.1 hg hr).trans hs.2⟩) _) (ownFrom_below (Nat.le_refl _) (by omega)))
  (fun _ _ _ _ _ hs _ _ => hs)
  ⟨⟨cc, cf⟩, hB0⟩
  (fun x => { tmps := #[v, undef, .int .i64 0, .pointer (some ⟨w.heap.size, 0, none⟩), v, .func (.func 49) #[] #[.pointer (some ⟨Bo, 0, none⟩)], .int .i64 x.1, .int .i64 x.2, undef, undef, undef], defers := [] }) ?assign ?body ?done ?stop
 case assign =>
  intro l x W K hK
  gi_wp2
  simpa [itemN] using hK
 case body =>
  rintro r pre x W ⟨⟨hc, hf⟩, hB⟩ hlt
  gi_wp2
  refine ⟨KeepsOthers.setCell _ _ _, KpF.setCell _ _ rfl (fun k h => h), ⟨?_, by rw [World.frozen?_setCell]; exact hf⟩, hB.setCell (p := ⟨w.heap.size, 0, none⟩) (Nat.le_refl _) _⟩
  rw [World.cell?_setCell_same' _ _ _ (by rw [hc]; rfl)]
  simp
 case done =>
  rintro D ys W hD rfl ⟨⟨hc, _⟩, hB⟩ hK
  gi_wp2
  refine ⟨by simp, .inl ⟨_, _, rfl, run_takeDeferred hK, ?_⟩⟩
  exact ⟨_, results_tmp rfl _ _ _, rfl, hB.trans (belowK_b (w := w) (Nat.le_refl _) W D _ _ (by omega) hK rfl rfl)⟩
 case stop =>
  rintro D c pre W _ _ h _
  exact h.elim
theorem waiting_at (n0 : Nat) (w : World) (B : Nat) (sv : Value) (L : List Lt) (hn0 : n0 ≤ w.heap.size) (h : NetAt n0 w B sv L) (hL : L.length ≤ 1000000) :
  Calls Tryz.prog 19 #[.pointer (some ⟨B, 0, none⟩)] w fun e w' => e = .returned (.int .i64 ((waitsL L).length : Int)) ∧ Below w.heap.size w w' := by
 rw [← wItems_len]
 refine callsIn_wide.1 (waiting_in w _ (wItems L) ?_ (fun W hW => waits_at n0 W B sv L (by have := hW.size; omega) (h.below hW) hL))
 rw [wItems_len]
 exact Nat.le_trans (waitsK_le L _) hL
end Go.Proofs.YtgkelbdgdhkeoaaGreat
