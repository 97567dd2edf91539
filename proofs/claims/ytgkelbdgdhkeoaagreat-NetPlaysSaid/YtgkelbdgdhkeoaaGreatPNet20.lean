/- The law's once of layer 20, walked: where a net's letters that wait are the reference's, it says true. -/
import Derived.Test.YtgkelbdgdhkeoaaGreatPNet18
import Derived.Test.YtgkelbdgdhkeoaaGreatPND
namespace Go.Proofs.YtgkelbdgdhkeoaaGreat
open Go.RowKit Go.Shelf
set_option linter.unusedVariables false
set_option linter.unusedSimpArgs false
attribute [local go_sem] Oper.semAt_some
theorem WtAt.lt {w : World} {Bo : Nat} {S : List Nat} {l : List (Nat × Int)} (h : WtAt w Bo S l) : ∀ k ∈ S, k < w.heap.size := by
 rcases h with ⟨h1, rfl, _⟩ | ⟨n0, D, su, L, h1, h2, rfl, _⟩
 ·intro k hk
  obtain rfl : k = Bo := by simpa using hk
  exact (Array.getElem?_eq_some_iff.1 h1).1
 ·intro k hk
  rcases List.mem_cons.1 hk with rfl | hk
  ·exact (Array.getElem?_eq_some_iff.1 h2).1
  ·rcases List.mem_cons.1 hk with rfl | hk
   ·exact h1.lt
   ·exact ownsRow_lt h1.row k hk
theorem netSeqNotNil (cs : Array Value) (w : World) : (binOp .eql 86 (.func (.func 49) #[] cs) .nilFunc).run Tryz.prog w = .ok (.bool false) w := by kernel_rfl
theorem wItems_at {M : List Lt} {i : Nat} {x : Nat × Int} (h : (wItems M)[i]? = some x) : (waitsL M)[i]? = some x.1 ∧ ∃ y, M[x.1]? = some y ∧ y.to_ = x.2 := by
 unfold wItems wItemsK at h
 rw [List.getElem?_map] at h
 obtain ⟨k, hk, rfl⟩ := Option.map_eq_some_iff.1 h
 refine ⟨hk, ?_⟩
 have hm := List.mem_of_getElem? hk
 simp only [waitsK, List.mem_filter, List.mem_range] at hm
 obtain ⟨y, hy⟩ : ∃ y, M[k]? = some y := ⟨_, List.getElem?_eq_getElem hm.1⟩
 exact ⟨y, hy, by simp [wItem, hy]⟩
theorem pre_snoc {α : Type} {pre l : List α} {x y : α} (h : pre <+: l) (hy : l[pre.length]? = some y) : pre ++ [x] <+: l ↔ x = y := by
 obtain ⟨t, rfl⟩ := h
 rw [List.prefix_append_right_inj]
 simp only [List.getElem?_append_right (Nat.le_refl _), Nat.sub_self] at hy
 cases t with
 | nil => simp at hy
 | cons z t =>
  simp at hy
  subst hy
  simp
set_option maxRecDepth 100000 in
set_option maxHeartbeats 6400000 in
theorem once20_in (n0 : Nat) (w0 w : World) (v : Value) (C : Nat) (sw : Value) (M : List Lt) (most : Int) (hM : M.length ≤ 100000) (hr : RNetAt n0 w0 w C sw M)
  (hC : ∀ W, Below w.heap.size w W → Calls Tryz.prog 34 #[v] W (WaitsP W (wItems M))) :
  CallsIn Fence.wide 5 Tryz.prog 20 #[v, .pointer (some ⟨C, 0, none⟩), .int .i64 most] w fun e w' => e = .returned (.bool true) ∧ Below w.heap.size w w' := by
 have hro : Fence.wide.round = none := rfl
 have h1 : 1 ≤ 5 := by omega
 have HC := Lib.hid hC
 have HR := Lib.hid hr
 have CWR := Lib.hid (fun W (hW : Below w.heap.size w W) => rwaits_any n0 w0 W C sw M (hr.below hW) hM)
 clear hC hr
 refine callsIn_of_wp_marks Tryz.func20 rfl trivial ?_ hro
 simp only [Tryz.ntmps20, List.size_toArray, List.length_cons, List.length_nil, Nat.reduceAdd, Nat.reduceSub, Array.replicate_succ, Array.replicate_zero, List.push_toArray, List.append_toArray, List.nil_append, List.cons_append]
 have hnn := netSeqNotNil
 have hB1 : Below w.heap.size w (((w.alloc (.cells #[.pointer (some ⟨C, 0, none⟩)] 27)).alloc (.cells #[.int .i64 most] 3)).alloc (.cells #[.bool false] 4)) := balloc (balloc (balloc (Below.refl _ w) _) _) _
 have b0 := Boxed.new w 27 (.pointer (some ⟨C, 0, none⟩))
 have b1 := Boxed.new (w.alloc (.cells #[.pointer (some ⟨C, 0, none⟩)] 27)) 3 (.int .i64 most)
 have b2 := Boxed.new ((w.alloc (.cells #[.pointer (some ⟨C, 0, none⟩)] 27)).alloc (.cells #[.int .i64 most] 3)) 4 (.bool false)
 simp only [World.size_alloc] at b1 b2
 replace b0 := (b0.alloc (.cells #[.int .i64 most] 3)).alloc (.cells #[.bool false] 4)
 replace b1 := b1.alloc (.cells #[.bool false] 4)
 have HB1 := Lib.hid hB1
 have HB0 := Lib.hid (And.intro b0 (And.intro b1 b2))
 clear hB1 b0 b1 b2
 have HC0 : Hid (∀ W, Below ((((w.alloc (.cells #[.pointer (some ⟨C, 0, none⟩)] 27)).alloc (.cells #[.int .i64 most] 3)).alloc (.cells #[.bool false] 4))).heap.size (((w.alloc (.cells #[.pointer (some ⟨C, 0, none⟩)] 27)).alloc (.cells #[.int .i64 most] 3)).alloc (.cells #[.bool false] 4)) W →
   Boxed W w.heap.size 27 (.pointer (some ⟨C, 0, none⟩)) ∧ Boxed W (w.heap.size + 1) 3 (.int .i64 most) ∧ Boxed W (w.heap.size + 1 + 1) 4 (.bool false)) := Lib.hid (fun W hW => by
  obtain ⟨b0, b1, b2⟩ := HB0.out
  exact ⟨(hW.block _ b0.lt).trans b0, (hW.block _ b1.lt).trans b1, (hW.block _ b2.lt).trans b2⟩)
 gi_wp2_with (first | (refine ⟨trivial, ?_⟩; gi_at_call 34; refine (callsIn_wide.2 (HC.out _ HB1.out)).mono ?_; rintro e w2 ⟨Bo, S, rfl, hit, hS, hb2⟩; have c0 := (HC0.out _ hb2).1.cell; have HI := Lib.hid (HC0.out _ hb2); have HS2 := Lib.hid hb2.size; have HB2 := Lib.hid (bthen HB1.out hb2); have HIT := Lib.hid hit; have HS := Lib.hid hS; clear hit hS hb2) | (refine ⟨trivial, ?_⟩; gi_at_call 17; refine (callsIn_wide.2 (CWR.out _ HB2.out)).mono ?_; rintro e w3 ⟨lv, rfl, ho3, hb3⟩; obtain ⟨ao, cap, rfl, _, _, ⟨_, hl4, hl5⟩, hjunk⟩ := Rd.of_own ho3; have HO3 := Lib.hid ho3; have HBB3 := Lib.hid hb3; clear ho3 hb3 hjunk))
 have ho3 := HO3.out
 have hb3 := HBB3.out
 have HB3 := Lib.hid (bthen HB2.out hb3)
 obtain ⟨i0, i1, i2⟩ := HI.out
 have j0 : Boxed w3 w.heap.size 27 (.pointer (some ⟨C, 0, none⟩)) := (hb3.block _ i0.lt).trans i0
 have j1 : Boxed w3 (w.heap.size + 1) 3 (.int .i64 most) := (hb3.block _ i1.lt).trans i1
 have j2 : Boxed w3 (w.heap.size + 1 + 1) 4 (.bool false) := (hb3.block _ i2.lt).trans i2
 have hs3 := hb3.size
 have hs2 := HS2.out
 have hS := HS.out
 simp only [World.size_alloc] at hs2 hS
 obtain ⟨q, hq⟩ : ∃ q, w3.heap.size = q := ⟨_, rfl⟩
 have hit4 : WtAt ((w3.alloc (.cells #[.slice ao (waitsL M).length cap] 51)).alloc (.cells #[.int .i64 0] 3)) Bo S (wItems M) := ((HIT.out.below hb3).below (balloc (Below.refl _ _) _)).below (balloc (Below.refl _ _) _)
 have hltS := (HIT.out.below hb3).lt
 have k3 := (Boxed.new w3 51 (.slice ao (waitsL M).length cap)).alloc (.cells #[.int .i64 0] 3)
 have k4 := Boxed.new (w3.alloc (.cells #[.slice ao (waitsL M).length cap] 51)) 3 (.int .i64 0)
 simp only [World.size_alloc] at k4
 replace j0 := (j0.alloc (.cells #[.slice ao (waitsL M).length cap] 51)).alloc (.cells #[.int .i64 0] 3)
 replace j1 := (j1.alloc (.cells #[.slice ao (waitsL M).length cap] 51)).alloc (.cells #[.int .i64 0] 3)
 replace j2 := (j2.alloc (.cells #[.slice ao (waitsL M).length cap] 51)).alloc (.cells #[.int .i64 0] 3)
 have ho4 := ownsRow_below (ownsRow_below ho3 (balloc (Below.refl _ _) (.cells #[.slice ao (waitsL M).length cap] 51))) (balloc (Below.refl _ _) (.cells #[.int .i64 0] 3))
 have hB4 : Below w.heap.size w ((w3.alloc (.cells #[.slice ao (waitsL M).length cap] 51)).alloc (.cells #[.int .i64 0] 3)) := balloc (balloc HB3.out _) _
 obtain ⟨W0, hW0⟩ : ∃ W0, (w3.alloc (.cells #[.slice ao (waitsL M).length cap] 51)).alloc (.cells #[.int .i64 0] 3) = W0 := ⟨_, rfl⟩
 have hs0 : W0.heap.size = w3.heap.size + 2 := by rw [← hW0]; simp
 rw [hW0] at hit4 k3 k4 j0 j1 j2 ho4 hB4 ⊢
 clear hW0
 rw [hq] at k3 k4 hltS hs0 ⊢
 have hq0 : w.heap.size + 3 ≤ q := by omega
 obtain ⟨n, hn⟩ : ∃ n, (waitsL M).length = n := ⟨_, rfl⟩
 have HCELL : Hid (∀ j u, (iV (waitsL M))[j]? = some u → ∃ b off, ao = some ⟨b, off, none⟩ ∧ b < W0.heap.size ∧ W0.cell? ⟨b, off + j, none⟩ = some u) := Lib.hid (by
  obtain ⟨ao', cap', e, _, _, _, h⟩ := Rd.of_own ho4
  obtain ⟨rfl, _, _⟩ := Value.slice.inj e
  simpa using h)
 have HO4 := Lib.hid ho4
 rw [hn] at k3 hl4 ⊢
 have HN := Lib.hid hn
 have HNW : Hid ((wItems M).length = n) := Lib.hid (by rw [wItems_len]; exact hn)
 have hn100 : n ≤ 100000 := by rw [← hn]; exact Nat.le_trans (waitsK_le M _) hM
 unfold maxLen at hl5
 clear ho4 hn ho3 hb3
 refine wpIn_rangeFunc_ownF hro h1 (gf := 49) (lb := #[.pointer (some ⟨Bo, 0, none⟩)]) rfl trivial (enters_of Tryz.func49 (by kernel_rfl) rfl)
  (waits_stops (5 - 1) (by omega) Bo S (wItems M) W0 hit4 (fun k => k = w.heap.size + 1 + 1 ∨ k = q + 1) (fun k hk => by rcases hk with rfl | rfl <;> omega) (fun k hk e => by have := hS k hk; have := hltS k hk; omega))
  KpF.trans (KpF.put (fun _ _ _ _ _ _ _ _ h => h)) (Below.refl _ _) (fun _ => rfl)
  (fun pre W => (pre <+: wItems M ∧ Boxed W w.heap.size 27 (.pointer (some ⟨C, 0, none⟩)) ∧ Boxed W (w.heap.size + 1) 3 (.int .i64 most) ∧ Boxed W (w.heap.size + 1 + 1) 4 (.bool false) ∧ Boxed W q 51 (.slice ao n cap) ∧ Boxed W (q + 1) 3 (.int .i64 (pre.length : Int)) ∧ ∀ g, ao = some ⟨g, 0, none⟩ → W.heap[g]? = W0.heap[g]?) ∧ Below w.heap.size w W)
  (fun c pre W => (c = .ret ∧ ∃ b, (b = false → ¬ pre <+: wItems M) ∧ Boxed W (w.heap.size + 1 + 1) 4 (.bool b)) ∧ Below w.heap.size w W)
  ?oI ?oX ⟨⟨List.nil_prefix, j0, j1, j2, k3, k4, fun _ _ => rfl⟩, hB4⟩
  (fun x => { tmps := #[v, .pointer (some ⟨C, 0, none⟩), .int .i64 most, undef, .pointer (some ⟨w.heap.size, 0, none⟩), .pointer (some ⟨w.heap.size + 1, 0, none⟩), .pointer (some ⟨w.heap.size + 1 + 1, 0, none⟩), .func (.func 49) #[] #[.pointer (some ⟨Bo, 0, none⟩)], .pointer (some ⟨q, 0, none⟩), .pointer (some ⟨q + 1, 0, none⟩), .int .i64 x.1, .int .i64 x.2, v, .func (.func 49) #[] #[.pointer (some ⟨Bo, 0, none⟩)], .func (.func 49) #[] #[.pointer (some ⟨Bo, 0, none⟩)], .bool false, .pointer (some ⟨C, 0, none⟩), .slice ao n cap, .func (.func 49) #[] #[.pointer (some ⟨Bo, 0, none⟩)], .int .i64 x.1, .int .i64 x.2, undef, undef, undef, undef, undef, undef, undef, undef, undef, undef, undef, undef, undef, undef, undef, undef, undef, undef, undef, undef, undef, undef, undef, undef, undef, undef, undef, undef, undef, undef, undef, undef, undef], defers := [] }) ?assign ?body ?done ?stop
 case oI =>
  refine OwnFrom.and (Own.from (fun s A B row hs hg hr => ⟨hs.1, rowKept hs.2.1 hg hr, rowKept hs.2.2.1 hg hr, rowKept hs.2.2.2.1 hg hr, rowKept hs.2.2.2.2.1 hg hr, rowKept hs.2.2.2.2.2.1 hg hr, fun g hgx => ?_⟩) _) (ownFrom_below (Nat.le_refl _) (by omega))
  have h0 := hs.2.2.2.2.2.2 g hgx
  obtain ⟨cs, f, h2⟩ := own_tagS HO4.out g (by rw [hgx]; simp [ob_some])
  exact (rowKept (h0.trans h2) hg hr).trans h2.symm
 case oX => exact fun c => OwnFrom.and (Own.from (fun s A B row hs hg hr => by obtain ⟨h1, b, h2, h3⟩ := hs; exact ⟨h1, b, h2, rowKept h3 hg hr⟩) _) (ownFrom_below (Nat.le_refl _) (by omega))
 case assign =>
  intro l x W K hK
  simp [itemN]
  gi_wp2
  exact hK
 case body =>
  rintro l pre x W ⟨⟨hpre, i0, i1, i2, i3, i4, hrow⟩, hB⟩ hlt
  obtain ⟨y, hy⟩ : ∃ y, (wItems M)[pre.length]? = some y := ⟨_, List.getElem?_eq_getElem hlt⟩
  have HPS := Lib.hid (@pre_snoc _ pre (wItems M) x y hpre hy)
  obtain ⟨hw, z, hz, hzt⟩ := wItems_at hy
  obtain ⟨g, rfl⟩ : ∃ g, ao = some ⟨g, 0, none⟩ := by
   rcases HO4.out.2 with ⟨he, _⟩ | ⟨g, cap', cur, he, _⟩
   ·obtain ⟨b, off, e, _⟩ := HCELL.out pre.length _ (by rw [show iV (waitsL M) = (waitsL M).map (fun (i : Nat) => Value.int .i64 (i : Int)) from rfl, List.getElem?_map, hw]; rfl)
    rw [e] at he; cases he
   ·exact ⟨g, (Value.slice.inj he).1⟩
  have hgc : W.cell? ⟨g, pre.length, none⟩ = some (.int .i64 (y.1 : Int)) := by
   obtain ⟨b, off, e, _, h⟩ := HCELL.out pre.length (.int .i64 (y.1 : Int)) (by rw [show iV (waitsL M) = (waitsL M).map (fun (i : Nat) => Value.int .i64 (i : Int)) from rfl, List.getElem?_map, hw]; rfl)
   obtain ⟨rfl, rfl, _⟩ := Addr.mk.inj (Option.some.inj e)
   rw [Nat.zero_add] at h
   exact (World.cell?_of_block (hrow g rfl)).trans h
  have r0 := (HR.out.below hB).cell
  obtain ⟨gm, cm, rfl, m1, m2, g0, _, _⟩ := (HR.out.below hB).at_ hz
  rw [hzt] at g0
  have hkM : y.1 < M.length := (List.getElem?_eq_some_iff.1 hz).1
  obtain ⟨nm, hnm⟩ : ∃ n, M.length = n := ⟨_, rfl⟩
  rw [hnm] at r0 hkM m1
  unfold maxLen at m2
  have c0 := i0.cell
  have c1 := i1.cell
  have c3 := i3.cell
  have c4 := i4.cell
  have f2 := i2.frozen
  have f4 := i4.frozen
  have c2 := i2.cell
  have hsz := hB.size
  have hln : pre.length < n := by have := HNW.out; omega
  have hg2 : decide ((n : Int) ≤ (pre.length : Int)) = false := by simp; omega
  have HI0 := Lib.hid i0
  have HI1 := Lib.hid i1
  have HI2 := Lib.hid i2
  have HI3 := Lib.hid i3
  have HI4 := Lib.hid i4
  have HPRE := Lib.hid hpre
  have HBB := Lib.hid hB
  have HROW := Lib.hid hrow
  clear hy hw hz hzt i0 i1 i2 i3 i4 hpre hB hrow hnm hlt
  obtain ⟨xk, xt⟩ := x
  obtain ⟨yk, yt⟩ := y
  dsimp only at *
  by_cases hall : xk = yk ∧ xt = yt
  ·obtain ⟨rfl, rfl⟩ := hall
   by_cases hm : (pre.length : Int) + 1 = most
   ·have hmb : (((pre.length : Int) + 1) == most) = true := by simpa using hm
    clear hm
    gi_wp2
    refine ⟨(KeepsOthers.setCell _ _ _).trans (KeepsOthers.setCell _ _ _), ⟨rfl, Or.inr (Boxed.set _ (Boxed.other HI2.out (by omega) _))⟩, ?_⟩
    exact (HBB.out.setCell (p := ⟨q + 1, 0, none⟩) (by simp; omega) _).setCell (p := ⟨w.heap.size + 1 + 1, 0, none⟩) (by simp; omega) _
   ·have hmb : (((pre.length : Int) + 1) == most) = false := by simpa using hm
    clear hm
    gi_wp2
    refine ⟨KeepsOthers.setCell _ _ _, KpF.setCell _ _ (Or.inr rfl) (fun k h => h), ⟨HPS.out.2 (by first | rfl | trivial), Boxed.other HI0.out (by omega) _, Boxed.other HI1.out (by omega) _, Boxed.other HI2.out (by omega) _, Boxed.other HI3.out (by omega) _, ?_, ?_⟩, HBB.out.setCell (p := ⟨q + 1, 0, none⟩) (by simp; omega) _⟩
    ·rw [show (((pre ++ [(xk, xt)]).length : Nat) : Int) = (pre.length : Int) + 1 by simp]
     exact Boxed.set _ HI4.out
    ·rw [Below.heap_setCell _ _ _ _ (fun e => ?_)]
     ·exact HROW.out g rfl
     ·have h1 := ownsRow_lt HO3.out g (by simp [ob_some])
      have e : g = q + 1 := e
      omega
  ·have hne : ¬ (xk, xt) = (yk, yt) := fun h => hall ⟨(Prod.mk.inj h).1, (Prod.mk.inj h).2⟩
   have HNE := Lib.hid hne
   by_cases e0 : xk = yk
   ·subst e0
    have e1 : xt ≠ yt := fun h => hall ⟨rfl, h⟩
    have q0 : (xt == yt) = false := by rw [beq_eq_false_iff_ne]; exact e1
    have q1 : (xt != yt) = true := by rw [bne, q0]; rfl
    clear hall hne e1 q0
    gi_wp2
    exact ⟨KeepsOthers.setCell _ _ _, ⟨rfl, false, fun _ h => HNE.out (HPS.out.1 h), Boxed.set _ HI2.out⟩, HBB.out.setCell (p := ⟨w.heap.size + 1 + 1, 0, none⟩) (by simp; omega) _⟩
   ·have q0 : ((xk : Int) == (yk : Int)) = false := by rw [beq_eq_false_iff_ne]; omega
    clear hall hne
    gi_wp2
    exact ⟨KeepsOthers.setCell _ _ _, ⟨rfl, false, fun _ h => HNE.out (HPS.out.1 h), Boxed.set _ HI2.out⟩, HBB.out.setCell (p := ⟨w.heap.size + 1 + 1, 0, none⟩) (by simp; omega) _⟩
 case done =>
  rintro D ys W hD rfl ⟨⟨hpre, i0, i1, i2, i3, i4, hrow⟩, hB⟩ hK
  rw [HNW.out] at i4
  have c2 := i2.cell
  have c3 := i3.cell
  have c4 := i4.cell
  have f2 := i2.frozen
  gi_wp2
  have hK' := (KeepsOthers.setCell W ⟨w.heap.size + 1 + 1, 0, none⟩ (.bool true)).same D _ hK rfl
  refine ⟨by simp, .inl ⟨_, _, rfl, run_takeDeferred hK', ?_⟩⟩
  have hc5 := cell_kept (World.cell?_setCell_same' W ⟨w.heap.size + 1 + 1, 0, none⟩ (.bool true) (by rw [c2]; rfl)) (grownBy_putObj' _ D (.deferred none)) (fun r e => by cases e; exact ⟨_, hK', rfl⟩)
  refine ⟨.bool true, ?_, rfl, (hB.setCell (p := ⟨w.heap.size + 1 + 1, 0, none⟩) (by simp; omega) _).trans (belowK_b (w := w) (Nat.le_refl _) _ D _ _ (by omega) hK' rfl rfl)⟩
  simp [results, Tryz.f20, go_sem, hc5]
 case stop =>
  rintro D c pre W hD hpre ⟨⟨rfl, b, hb, i2⟩, hB⟩ hK
  obtain rfl : b = true := by
   cases b with
   | true => rfl
   | false => exact absurd hpre (hb rfl)
  have c2 := i2.cell
  gi_wp2
  refine ⟨by simp, .inl ⟨_, _, rfl, run_takeDeferred hK, ?_⟩⟩
  have hc5 := cell_kept c2 (grownBy_putObj' _ D (.deferred none)) (fun r e => by cases e; exact ⟨_, hK, rfl⟩)
  refine ⟨.bool true, ?_, rfl, hB.trans (belowK_b (w := w) (Nat.le_refl _) W D _ _ (by omega) hK rfl rfl)⟩
  simp [results, Tryz.f20, go_sem, hc5]
end Go.Proofs.YtgkelbdgdhkeoaaGreat
