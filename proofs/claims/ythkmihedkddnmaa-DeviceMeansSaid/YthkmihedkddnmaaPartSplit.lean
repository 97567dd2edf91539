/- part.Split: walked over the iterator's contract. -/
import Derived.Test.YthkmihedkddnmaaPartCalls
namespace Go.Proofs.Ythkmihedkddnmaa
open Go.RowKit Go.Shelf
set_option linter.unusedVariables false
attribute [local go_sem] Oper.semAt_some

def spanCells (s : PSpan) : List Value := [.int .i64 s.blk, .int .i64 s.lo, .int .i64 s.hi]
def spansCells (l : List PSpan) : List Value := l.flatMap spanCells
theorem spansCells_snoc (l : List PSpan) (s : PSpan) : spansCells (l ++ [s]) = spansCells l ++ spanCells s := by simp [spansCells]
theorem spansCells_len (l : List PSpan) : (spansCells l).length = l.length * 3 := by
  induction l with
  | nil => rfl
  | cons s l ih => simp only [spansCells, List.flatMap_cons, List.length_append, List.length_cons] at *; rw [ih]; simp [spanCells]; omega

theorem infoSpan : (Try.prog.info? 81).map (fun i => (i.zero, i.size, i.bytes)) = some (some (.agg #[.int .i64 0, .int .i64 0, .int .i64 0]), 3, 24) := by kernel_rfl

set_option maxRecDepth 100000 in
set_option maxHeartbeats 2000000 in
theorem partSplit_in (a c : Int) (hc0 : -9223372036854775808 ≤ c) (w : World) :
    CallsIn Fence.wide 5 Try.prog 37 #[.int .i64 a, .int .i64 c] w fun e w' => ∃ v, e = .returned v ∧
      w'.ownsRow w.heap.size 81 3 v (pItemsI a c).length (spansCells ((pItemsI a c).map (·.2))) ∧ Below w.heap.size w w' := by
  have hro : Fence.wide.round = none := rfl
  have h1 : 1 ≤ 5 := by omega
  refine callsIn_of_wp_marks Try.func37 rfl trivial ?_ hro
  simp only [Try.ntmps37, List.size_toArray, List.length_cons, List.length_nil, Nat.reduceAdd, Nat.reduceSub, Array.replicate_succ, Array.replicate_zero, List.push_toArray, List.append_toArray, List.nil_append, List.cons_append]
  gi_wp2_with (refine ⟨trivial, ?_⟩; gi_at_call 40; refine (over_in _ _ trivial hro _ _ _).mono ?_; rintro e w' ⟨rfl, rfl⟩)
  have b0 := Boxed.new w 78 (.slice none 0 0)
  have c1 := newCell (w.alloc (.cells #[.slice none 0 0] 78)) (.int .i64 a) 3
  have c2 := newCell ((w.alloc (.cells #[.slice none 0 0] 78)).alloc (.cells #[.int .i64 a] 3)) (.int .i64 c) 3
  simp only [World.size_alloc] at c1 c2
  have b2 := (b0.alloc (.cells #[.int .i64 a] 3)).alloc (.cells #[.int .i64 c] 3)
  have hB0 : Below w.heap.size w (((w.alloc (.cells #[.slice none 0 0] 78)).alloc (.cells #[.int .i64 a] 3)).alloc (.cells #[.int .i64 c] 3)) := balloc (balloc (balloc (Below.refl _ _) _) _) _
  have hlen : (pItemsI a c).length ≤ 1073741824 := pItemsI_len_le a c
  refine wpIn_rangeFunc_ownH hro h1 (gf := 50) (lb := #[.pointer (some ⟨w.heap.size + 1, 0, none⟩), .pointer (some ⟨w.heap.size + 1 + 1, 0, none⟩)]) rfl trivial (enters_of Try.func50 (by kernel_rfl) rfl)
    (overI_stops Fence.wide (5 - 1) trivial hro (by omega) (w.heap.size + 1) a c hc0 _ (by simp) (FpOut w.heap.size) (fun W o k hW h => FpOut.alloc (by simp at hW; omega) o h)
      (fun W hW => ⟨fun k hk => by have h1 := FpOut.start (by simp; omega) b2.cell W hW hk; have := hW.size; simp at this; omega,
        fun hk => by have h1 := FpOut.start (by simp; omega) b2.cell W hW hk; omega, fun hk => by have h1 := FpOut.start (by simp; omega) b2.cell W hW hk; omega⟩) (cellAlloc _ c1.1) c2.1)
    KpF.trans (KpF.put (FpOut.put (by simp; omega))) (Below.refl _ _) (fun _ => rfl)
    (fun pre W => (∃ v, Boxed W w.heap.size 78 v ∧ W.ownsRow w.heap.size 81 3 v pre.length (spansCells (pre.map (·.2))) ∧ True) ∧ Below w.heap.size w W)
    (fun _ _ _ => False)
    (OwnFrom.and (Own.from (holdsRow_own w.heap.size w.heap.size 78 81 3 (fun pre : List (Nat × PSpan) => pre.length) (fun pre => spansCells (pre.map (·.2))) (fun _ _ => True)) _) (ownFrom_below (Nat.le_refl _) (by simp; omega)))
    (fun _ _ _ _ _ hs _ _ => hs)
    ⟨⟨_, b2, World.ownsRow_nil _ _ _ _, trivial⟩, hB0⟩
    (fun x a' W => ∃ Bs, w.heap.size < Bs ∧ W.heap[Bs]? = some (.cells #[.int .i64 x.2.blk, .int .i64 x.2.lo, .int .i64 x.2.hi] 81 (0, 0)) ∧ a' = { tmps := #[.int .i64 a, .int .i64 c, undef, undef, .slice none 0 0, .pointer (some ⟨w.heap.size, 0, none⟩), undef, .pointer (some ⟨Bs, 0, none⟩), .int .i64 a, .int .i64 c, .func (.func 50) #[] #[.pointer (some ⟨w.heap.size + 1, 0, none⟩), .pointer (some ⟨w.heap.size + 1 + 1, 0, none⟩)], .int .i64 x.1, spanV x.2, undef, undef, undef, undef, undef], defers := [] })
    (fun x a' _ A B row hs hg hr => by
      obtain ⟨Bs, h1, h2, h3⟩ := hs
      exact ⟨Bs, h1, rowKept h2 hg (fun r e => (hr r e).2), h3⟩) ?assign ?body ?done ?stop
  case assign =>
    rintro l pre x W K ⟨⟨v, hv, hrow, _⟩, hB⟩ hK
    have hlt := hv.lt
    have hsz := hB.size
    simp [itemVs, spanV]
    gi_wp2
    exact hK _ _ ((KeepsOthers.alloc _ _).from _) (KpF.alloc (KpF.refl _ _) _ (fun k h => FpOut.alloc hlt _ h)) ⟨⟨v, hv.alloc _, hrow.alloc _, trivial⟩, balloc hB _⟩ ⟨W.heap.size, hlt, heap_alloc_new W _, rfl⟩
  case body =>
    rintro l pre x a' W hl ⟨r, hr⟩ ⟨⟨v, hv, hrow, _⟩, hB⟩ ⟨Bs, hBs, hs, rfl⟩ hlt
    have hvc := hv.cell
    have hvf := hv.frozen
    have s0 : W.cell? ⟨Bs, 0, none⟩ = some (.int .i64 x.2.blk) := by rw [cell_of_row W Bs 0 _ _ _ hs]; rfl
    have s1 : W.cell? ⟨Bs, 1, none⟩ = some (.int .i64 x.2.lo) := by rw [cell_of_row W Bs 1 _ _ _ hs]; rfl
    have s2 : W.cell? ⟨Bs, 2, none⟩ = some (.int .i64 x.2.hi) := by rw [cell_of_row W Bs 2 _ _ _ hs]; rfl
    have hsz := hB.size
    gi_wp2_with (gi_at_builtin; go_must (refine wpListIn_app rfl _ _ 78 rfl w.heap.size 81 _ 3 24 Try.underlying78 infoSpan rfl (by decide) (by decide) _ _ _ rfl hrow rfl rfl (by simp [Value.oneCell']) (by omega) hsz ?_); intro v' w1 ho1 hg1 hsn hne; obtain ⟨g', cap', rfl⟩ := ownsRow_succ ho1; obtain ⟨hv1, hv2, hr2, hk2, hb2⟩ := hv.appended (by decide) hrow hB.size (Nat.le_refl _) ho1 hg1; have hkp := KpF.appended hv (by decide) hrow hg1 hsn ho1; have hc1 := hv1.cell; have hf1 := hv1.frozen)
    refine ⟨hk2.from _, hkp, ⟨_, hv2, ?_⟩, hB.trans hb2⟩
    rw [List.map_append, List.map_cons, List.map_nil, spansCells_snoc, List.length_append]
    exact hr2
  case done =>
    rintro D ys W hD rfl ⟨⟨v, hv, hrow, _⟩, hB⟩ hK
    have hvc := hv.cell
    gi_wp2
    refine ⟨by simp, .inl ⟨_, _, rfl, run_takeDeferred hK, ?_⟩⟩
    exact ⟨_, results_tmp rfl _ _ _, v, rfl, ownsRow_putObj hrow _ hK rfl, hB.trans (belowK_b (w := w) (Nat.le_refl _) W D _ _ (by simp at hD; omega) hK rfl rfl)⟩
  case stop =>
    rintro D c pre W _ _ h _
    exact h.elim
end Go.Proofs.Ythkmihedkddnmaa
