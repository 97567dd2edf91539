import Derived.Test.YtgmahhdnjikdjaaGreatNG21
import Derived.Test.YtgmahhdnjikdjaaGreatNG17
import Derived.Test.YtgmahhdnjikdjaaGreatNG2
set_option linter.unusedVariables false
set_option linter.unusedSimpArgs false
/- btree: what is answered of a store that is not there, and of an empty tree, walked. -/
namespace Go.Proofs.YtgmahhdnjikdjaaGreat
open Go.RowKit Go.Maps Wire
set_option linter.unusedVariables false
set_option linter.unusedSimpArgs false
theorem agg75 (w : World) : (isAgg 43).run Tryz.prog w = .ok false w := by kernel_rfl
set_option maxRecDepth 100000 in
set_option maxHeartbeats 6400000 in
theorem tmay_no (w : World) (v : Value) (h : StV w v) (n : Int) : Calls Tryz.prog 73 #[v, .int .u32 n] w fun e w' => e = .returned (.int .i64 1) ∧ Below w.heap.size w w' := by
 have CS := ssuper_no w v h
 obtain ⟨SL, hSL⟩ : ∃ L, suZ = L := ⟨_, rfl⟩
 have HMT : Hid (SL[1]? = some (.int .i64 0)) := Lib.hid (by rw [← hSL]; rfl)
 have HS19 : Hid (SL.length = 19) := Lib.hid (by rw [← hSL]; rfl)
 have HS1 : Hid (SL.toArray.all (·.oneCell') = true) := Lib.hid (by rw [← hSL]; kernel_rfl)
 have hss : SL.toArray.size = 19 := by rw [List.size_toArray, HS19.out]
 rw [hSL] at CS
 obtain ⟨a, rfl⟩ := h.ptr
 clear h hSL
 go_enter Tryz.func73, Tryz.ntmps73
 go_wp2_with fail
 refine CS.mono ?_
 rintro e w2 ⟨rfl, hb2⟩
 have HB2 := Lib.hid hb2
 clear CS hb2
 dsimp only
 repeat (first
  | (refine wpList_store_mid rfl 72 _ _ rfl w2.heap.size 0 SL.toArray rfl rfl (thereOf (heap_alloc_new w2 _) (by rw [hss]; simp)) (by rw [hss]; exact infoSup) HS1.out ?_; refine Hid.out ?_)
  | go_step)
 refine Lib.hid ?_
 obtain ⟨w4, hw4⟩ : ∃ W, (w2.alloc (.cells #[.int .u64 0, .int .i64 0, .int .i64 0, .int .u32 0, .int .u32 0, .int .u32 0, .int .u32 0, .int .u32 0, .int .u32 0, .int .u32 0, .int .u32 0, .int .u32 0, .int .i64 0, .int .u64 0, .int .u64 0, .int .u64 0, .int .u64 0, .int .u64 0, .bool false] 72)).setCells w2.heap.size 0 SL = W := ⟨_, rfl⟩
 have HB4 : Hid (Below w.heap.size w w4) := Lib.hid (by rw [← hw4]; exact bthn HB2.out (belowSets (Nat.le_refl _) _ _ _ (balloc (Below.refl _ _) _)))
 obtain ⟨g4, hg4⟩ : ∃ g, w2.heap.size = g := ⟨_, rfl⟩
 have HR4 : Hid (w4.rangeAt g4 0 SL) := Lib.hid (by rw [← hw4, ← hg4]; exact World.rangeAt_setCells_same _ _ _ _ (thereOf (heap_alloc_new w2 _) (by rw [HS19.out]; simp)))
 have hc1 : w4.cell? ⟨g4, 1, none⟩ = some (.int .i64 0) := HR4.out 1 _ HMT.out
 simp only [List.toList_toArray]
 rw [hw4, hg4]
 clear hw4 hg4
 go_wp2_with fail
 go_ret
 exact ⟨rfl, HB4.out⟩
set_option maxRecDepth 100000 in
set_option maxHeartbeats 3200000 in
theorem tnodes_no (w : World) (v : Value) (h : StV w v) (r : Int) : Calls Tryz.prog 142 #[v, .int .u32 r] w fun e w' => e = .returned (.tuple #[.slice none 0 0, .int .i64 1]) ∧ Below w.heap.size w w' := by
 obtain ⟨a0, ha0⟩ : ∃ W, w.alloc (.cells #[.slice none 0 0] 43) = W := ⟨_, rfl⟩
 have ba0 : Below w.heap.size w a0 := by rw [← ha0]; exact balloc (Below.refl _ _) _
 have xa0 : a0.heap[w.heap.size]? = some (.cells #[.slice none 0 0] 43 (0, 0)) := by rw [← ha0]; exact heap_alloc_new _ _
 have HZ : Hid (w.heap.size ≤ w.heap.size) := Lib.hid (Nat.le_refl _)
 have HB0 : Hid (Below w.heap.size w a0) := Lib.hid (ba0)
 have HX0 := Lib.hid xa0
 have C := tmay_no a0 v (h.below (HB0.out)) r
 obtain ⟨a, rfl⟩ := h.ptr
 clear h ba0 xa0
 go_enter Tryz.func142, Tryz.ntmps142
 go_wp2_with fail
 (try rw [ha0])
 clear ha0
 refine C.mono ?_
 rintro e w1 ⟨rfl, hb1⟩
 have HB1 := Lib.hid (bthn HB0.out hb1)
 have HX1 := Lib.hid ((hb1.block _ (Array.getElem?_eq_some_iff.1 HX0.out).1).trans HX0.out)
 have t0 := cellOf HX1.out 0 (v := .slice none 0 0) rfl
 have f0 := frozenOf HX1.out 0
 clear C hb1
 go_wp2_with fail
 obtain ⟨w2, hw2⟩ : ∃ W, w1.setCell ⟨w.heap.size, 0, none⟩ (.slice none 0 0) = W := ⟨_, rfl⟩
 rw [hw2]
 have hx2 : w2.heap[w.heap.size]? = some (.cells #[.slice none 0 0] 43 (0, 0)) := by rw [← hw2]; exact setOf HX1.out 0 _
 have hb2 : Below w.heap.size w w2 := by rw [← hw2]; exact HB1.out.setCell (p := ⟨w.heap.size, 0, none⟩) HZ.out _
 refine bodyPost_ret (v := .tuple #[.slice none 0 0, .int .i64 1]) ?_ rfl ⟨rfl, hb2⟩
 rw [results_cell_tmp rfl]
 have r1 := lv_one agg75 (cellOf hx2 0 (v := .slice none 0 0) rfl)
 simp only [asAddr, Array.getD_eq_getD_getElem?, List.getElem?_toArray, List.getElem?_cons_succ, List.getElem?_cons_zero, Option.getD_some, Sem.run_pure, Result.andThen_ok, r1]
set_option maxRecDepth 100000 in
set_option maxHeartbeats 3200000 in
theorem tnodes_0 {w : World} {S B pm pd mf md : Nat} {s : Su} {A D : M} {Fm Fd : List Nat} (h : StB w S B pm pd mf md s A D Fm Fd false)  : Calls Tryz.prog 142 #[.pointer (some ⟨S, 0, none⟩), .int .u32 0] w fun e w' => e = .returned (.tuple #[.slice none 0 0, .int .i64 0]) ∧ Below w.heap.size w w' := by
 obtain ⟨a0, ha0⟩ : ∃ W, w.alloc (.cells #[.slice none 0 0] 43) = W := ⟨_, rfl⟩
 have ba0 : Below w.heap.size w a0 := by rw [← ha0]; exact balloc (Below.refl _ _) _
 have xa0 : a0.heap[w.heap.size]? = some (.cells #[.slice none 0 0] 43 (0, 0)) := by rw [← ha0]; exact heap_alloc_new _ _
 have HZ : Hid (w.heap.size ≤ w.heap.size) := Lib.hid (Nat.le_refl _)
 have HB0 : Hid (Below w.heap.size w a0) := Lib.hid (ba0)
 have HX0 := Lib.hid xa0
 have C := tmay_in (h.below (HB0.out)) 0 h.mok.pos
 clear h ba0 xa0
 go_enter Tryz.func142, Tryz.ntmps142
 go_wp2_with fail
 (try rw [ha0])
 clear ha0
 refine C.mono ?_
 rintro e w1 ⟨rfl, hb1⟩
 have HB1 := Lib.hid (bthn HB0.out hb1)
 have HX1 := Lib.hid ((hb1.block _ (Array.getElem?_eq_some_iff.1 HX0.out).1).trans HX0.out)
 have t0 := cellOf HX1.out 0 (v := .slice none 0 0) rfl
 have f0 := frozenOf HX1.out 0
 clear C hb1
 go_wp2_with fail
 obtain ⟨w2, hw2⟩ : ∃ W, w1.setCell ⟨w.heap.size, 0, none⟩ (.slice none 0 0) = W := ⟨_, rfl⟩
 rw [hw2]
 have hx2 : w2.heap[w.heap.size]? = some (.cells #[.slice none 0 0] 43 (0, 0)) := by rw [← hw2]; exact setOf HX1.out 0 _
 have hb2 : Below w.heap.size w w2 := by rw [← hw2]; exact HB1.out.setCell (p := ⟨w.heap.size, 0, none⟩) HZ.out _
 refine bodyPost_ret (v := .tuple #[.slice none 0 0, .int .i64 0]) ?_ rfl ⟨rfl, hb2⟩
 rw [results_cell_tmp rfl]
 have r1 := lv_one agg75 (cellOf hx2 0 (v := .slice none 0 0) rfl)
 simp only [asAddr, Array.getD_eq_getD_getElem?, List.getElem?_toArray, List.getElem?_cons_succ, List.getElem?_cons_zero, Option.getD_some, Sem.run_pure, Result.andThen_ok, r1]
set_option maxRecDepth 100000 in
set_option maxHeartbeats 6400000 in
theorem tmay_big {w : World} {S B pm pd mf md : Nat} {s : Su} {A D : M} {Fm Fd : List Nat} (h : StB w S B pm pd mf md s A D Fm Fd false) (n : Nat) (hn : A.now.length ≤ n) (hn32 : n < 4294967296) : Calls Tryz.prog 73 #[.pointer (some ⟨S, 0, none⟩), .int .u32 (n : Int)] w fun e w' => e = .returned (.int .i64 2) ∧ Below w.heap.size w w' := by
 have CS := ssuper_at h
 have CB : Hid (∀ X, Below w.heap.size w X → Calls Tryz.prog 72 #[.pointer (some ⟨S, 0, none⟩)] X fun e w' => e = .returned (.bool false) ∧ X = w') := Lib.hid (fun X hX => sbroken_at (h.below hX))
 have hm9 := h.mok.max
 have hps := h.mok.pos
 have hmt := h.ml
 rw [suL_v] at CS
 obtain ⟨SL, hSL⟩ : ∃ L, suL s = L := ⟨_, rfl⟩
 have HMT : Hid (SL[1]? = some (.int .i64 s.mt)) := Lib.hid (by rw [← hSL]; rfl)
 have HS19 : Hid (SL.length = 19) := Lib.hid (by rw [← hSL]; rfl)
 have HS1 : Hid (SL.toArray.all (·.oneCell') = true) := Lib.hid (by rw [← hSL]; exact Array.all_eq_true_iff_forall_mem.2 (fun v hv => suL_one s v (by simpa using hv)))
 have hss : SL.toArray.size = 19 := by rw [List.size_toArray, HS19.out]
 rw [hSL] at CS
 obtain ⟨mt, hm⟩ : ∃ x, s.mt = x := ⟨_, rfl⟩
 rw [hm] at HMT hmt
 have hn4 : (n : Int) < 4294967296 := by omega
 have hz : (mt == 0) = false := by simp; omega
 have hn1 : decide (mt ≤ (n : Int)) = true := by simp; omega
 clear h hSL hm hmt
 go_enter Tryz.func73, Tryz.ntmps73
 go_wp2_with fail
 refine CS.mono ?_
 rintro e w2 ⟨rfl, hb2⟩
 have HB2 := Lib.hid hb2
 clear CS hb2
 dsimp only
 repeat (first
  | (refine wpList_store_mid rfl 72 _ _ rfl w2.heap.size 0 SL.toArray rfl rfl (thereOf (heap_alloc_new w2 _) (by rw [hss]; simp)) (by rw [hss]; exact infoSup) HS1.out ?_; refine Hid.out ?_)
  | go_step)
 refine Lib.hid ?_
 obtain ⟨w4, hw4⟩ : ∃ W, (w2.alloc (.cells #[.int .u64 0, .int .i64 0, .int .i64 0, .int .u32 0, .int .u32 0, .int .u32 0, .int .u32 0, .int .u32 0, .int .u32 0, .int .u32 0, .int .u32 0, .int .u32 0, .int .i64 0, .int .u64 0, .int .u64 0, .int .u64 0, .int .u64 0, .int .u64 0, .bool false] 72)).setCells w2.heap.size 0 SL = W := ⟨_, rfl⟩
 have HB4 : Hid (Below w.heap.size w w4) := Lib.hid (by rw [← hw4]; exact bthn HB2.out (belowSets (Nat.le_refl _) _ _ _ (balloc (Below.refl _ _) _)))
 obtain ⟨g4, hg4⟩ : ∃ g, w2.heap.size = g := ⟨_, rfl⟩
 have HR4 : Hid (w4.rangeAt g4 0 SL) := Lib.hid (by rw [← hw4, ← hg4]; exact World.rangeAt_setCells_same _ _ _ _ (thereOf (heap_alloc_new w2 _) (by rw [HS19.out]; simp)))
 have hc1 : w4.cell? ⟨g4, 1, none⟩ = some (.int .i64 mt) := HR4.out 1 _ HMT.out
 have CB4 := CB.out w4 HB4.out
 simp only [List.toList_toArray]
 rw [hw4, hg4]
 clear hw4 hg4 CB
 go_wp2_with fail
 refine CB4.mono ?_
 rintro e w5 ⟨rfl, rfl⟩
 clear CB4
 go_wp2_with fail
 go_ret
 exact ⟨rfl, HB4.out⟩
set_option maxRecDepth 100000 in
set_option maxHeartbeats 3200000 in
theorem tnodes_big {w : World} {S B pm pd mf md : Nat} {s : Su} {A D : M} {Fm Fd : List Nat} (h : StB w S B pm pd mf md s A D Fm Fd false) (n : Nat) (hn : A.now.length ≤ n) (hn32 : n < 4294967296)  : Calls Tryz.prog 142 #[.pointer (some ⟨S, 0, none⟩), .int .u32 (n : Int)] w fun e w' => e = .returned (.tuple #[.slice none 0 0, .int .i64 2]) ∧ Below w.heap.size w w' := by
 obtain ⟨a0, ha0⟩ : ∃ W, w.alloc (.cells #[.slice none 0 0] 43) = W := ⟨_, rfl⟩
 have ba0 : Below w.heap.size w a0 := by rw [← ha0]; exact balloc (Below.refl _ _) _
 have xa0 : a0.heap[w.heap.size]? = some (.cells #[.slice none 0 0] 43 (0, 0)) := by rw [← ha0]; exact heap_alloc_new _ _
 have HZ : Hid (w.heap.size ≤ w.heap.size) := Lib.hid (Nat.le_refl _)
 have HB0 : Hid (Below w.heap.size w a0) := Lib.hid (ba0)
 have HX0 := Lib.hid xa0
 have C := tmay_big (h.below (HB0.out)) n hn hn32
 clear h ba0 xa0
 go_enter Tryz.func142, Tryz.ntmps142
 go_wp2_with fail
 (try rw [ha0])
 clear ha0
 refine C.mono ?_
 rintro e w1 ⟨rfl, hb1⟩
 have HB1 := Lib.hid (bthn HB0.out hb1)
 have HX1 := Lib.hid ((hb1.block _ (Array.getElem?_eq_some_iff.1 HX0.out).1).trans HX0.out)
 have t0 := cellOf HX1.out 0 (v := .slice none 0 0) rfl
 have f0 := frozenOf HX1.out 0
 clear C hb1
 go_wp2_with fail
 obtain ⟨w2, hw2⟩ : ∃ W, w1.setCell ⟨w.heap.size, 0, none⟩ (.slice none 0 0) = W := ⟨_, rfl⟩
 rw [hw2]
 have hx2 : w2.heap[w.heap.size]? = some (.cells #[.slice none 0 0] 43 (0, 0)) := by rw [← hw2]; exact setOf HX1.out 0 _
 have hb2 : Below w.heap.size w w2 := by rw [← hw2]; exact HB1.out.setCell (p := ⟨w.heap.size, 0, none⟩) HZ.out _
 refine bodyPost_ret (v := .tuple #[.slice none 0 0, .int .i64 2]) ?_ rfl ⟨rfl, hb2⟩
 rw [results_cell_tmp rfl]
 have r1 := lv_one agg75 (cellOf hx2 0 (v := .slice none 0 0) rfl)
 simp only [asAddr, Array.getD_eq_getD_getElem?, List.getElem?_toArray, List.getElem?_cons_succ, List.getElem?_cons_zero, Option.getD_some, Sem.run_pure, Result.andThen_ok, r1]
end Go.Proofs.YtgmahhdnjikdjaaGreat
/- Rows of pairs: cells, elements, parts. -/
namespace Go.Proofs.YtgmahhdnjikdjaaGreat
open Go.RowKit Go.Maps Wire
set_option linter.unusedVariables false
set_option linter.unusedSimpArgs false
/-- Pairs as cells. -/
def pV (l : List (Nat × Nat)) : List Value := l.flatMap fun p => [.int .u64 (p.1 : Int), .int .u64 (p.2 : Int)]
theorem pV_cons (p : Nat × Nat) (l : List (Nat × Nat)) : pV (p :: l) = .int .u64 (p.1 : Int) :: .int .u64 (p.2 : Int) :: pV l := rfl
theorem pV_app (a b : List (Nat × Nat)) : pV (a ++ b) = pV a ++ pV b := by simp [pV, List.flatMap_append]
theorem pV_len : ∀ l : List (Nat × Nat), (pV l).length = l.length * 2
 | [] => rfl
 | p :: l => by rw [pV_cons, List.length_cons, List.length_cons, List.length_cons, pV_len l]; omega
theorem pV_get : ∀ (l : List (Nat × Nat)) (j : Nat) (p : Nat × Nat), l[j]? = some p → (pV l)[j * 2]? = some (.int .u64 (p.1 : Int)) ∧ (pV l)[j * 2 + 1]? = some (.int .u64 (p.2 : Int))
 | [], j, p, h => by simp at h
 | q :: l, 0, p, h => by
  obtain rfl : q = p := by simpa using h
  exact ⟨rfl, rfl⟩
 | q :: l, j + 1, p, h => by
  have h1 := pV_get l j p (by simpa using h)
  rw [pV_cons, show (j + 1) * 2 = j * 2 + 1 + 1 by omega]
  exact h1
theorem pV_one (l : List (Nat × Nat)) : ∀ u ∈ pV l, u.oneCell' = true := fun u hu => by
 unfold pV at hu
 rw [List.mem_flatMap] at hu
 obtain ⟨p, _, hp⟩ := hu
 simp only [List.mem_cons, List.mem_nil_iff, or_false] at hp
 rcases hp with rfl | rfl <;> rfl
theorem infoPr : (Tryz.prog.info? 94).map (fun i => (i.zero, i.size, i.bytes)) = some (some (.agg #[.int .u64 0, .int .u64 0]), 2, 16) := by kernel_rfl
/-- A pair of a row that can be read. -/
theorem rd_pair {w : World} {ao : Option Addr} {n c : Nat} {l : List (Nat × Nat)} (h : Rd w 2 (.slice ao n c) n (pV l)) (h0 : 0 < l.length) : ∃ b off, ao = some ⟨b, off, none⟩ ∧ b < w.heap.size ∧ ∀ (j : Nat) (p : Nat × Nat), l[j]? = some p → w.cell? ⟨b, off + j * 2, none⟩ = some (.int .u64 (p.1 : Int)) ∧ w.cell? ⟨b, off + j * 2 + 1, none⟩ = some (.int .u64 (p.2 : Int)) := by
 obtain ⟨ao', c', he, _, _, _, hc⟩ := h
 obtain ⟨rfl, _, _⟩ := Value.slice.inj he
 obtain ⟨p0, hp0⟩ : ∃ p, l[0]? = some p := ⟨_, List.getElem?_eq_getElem h0⟩
 obtain ⟨b, off, ha, hb, _⟩ := hc 0 _ (by simpa using (pV_get l 0 p0 hp0).1)
 refine ⟨b, off, ha, hb, fun j p hj => ?_⟩
 have hg := pV_get l j p hj
 obtain ⟨b1, o1, e1, _, h1⟩ := hc _ _ hg.1
 obtain ⟨b2, o2, e2, _, h2⟩ := hc _ _ hg.2
 rw [ha] at e1 e2
 obtain ⟨rfl, rfl⟩ : b = b1 ∧ off = o1 := by cases e1; exact ⟨rfl, rfl⟩
 obtain ⟨rfl, rfl⟩ : b = b2 ∧ off = o2 := by cases e2; exact ⟨rfl, rfl⟩
 exact ⟨h1, by rw [Nat.add_assoc]; exact h2⟩
theorem rd_plen {w : World} {v : Value} {n : Nat} {l : List (Nat × Nat)} (h : Rd w 2 v n (pV l)) : l.length = n := by
 obtain ⟨_, _, _, hl, _⟩ := h
 rw [pV_len] at hl
 omega
theorem mapL_at1 {α : Type} {P : Program} {k : TypeId} {R : Value → Option (DataW Unit × List MemPlace)} {q : IntKind} {f : α → DataW Unit} {X w' : World} {b : Nat} {F : List Nat} (h : X.heap[b]? = some (.map #[] 0)) (hm : Mods F X w') (hb : b ∉ F) : MapL w' P k R q f b ([] : List (Nat × α)) := by
 obtain ⟨es, clock, h1, h2⟩ := mapL_new X P k R q f
 have e := heap_alloc_new X (.map #[] 0)
 have e2 : some (Obj.map es clock) = some (.map #[] 0) := h1.symm.trans e
 obtain ⟨rfl, rfl⟩ := Obj.map.inj (Option.some.inj e2)
 exact ⟨#[], 0, (hm.block _ (Array.getElem?_eq_some_iff.1 h).1 hb).trans h, h2⟩
theorem row_sl2 {w : World} {base n sz : Nat} {e : TypeId} {v : Value} {xs : List Value} (h : w.ownsRow base e sz v n xs) : ∃ a c, v = .slice a n c := by
 rcases h.2 with ⟨rfl, h0⟩ | ⟨g, cap, cur, rfl, _⟩
 ·exact ⟨none, 0, by rw [h0]⟩
 ·exact ⟨_, _, rfl⟩
end Go.Proofs.YtgmahhdnjikdjaaGreat
/- btree.Nodes of a leaf; diff.set, both, and what is told where they fail, walked. -/
namespace Go.Proofs.YtgmahhdnjikdjaaGreat
open Go.RowKit Go.Maps Wire
set_option linter.unusedVariables false
set_option linter.unusedSimpArgs false
/-- Numbers of nodes as cells. -/
def nV (l : List Nat) : List Value := l.map fun c => .int .u32 ((c : Nat) : Int)
theorem nV_one (l : List Nat) : ∀ u ∈ nV l, u.oneCell' = true := fun u hu => by
 unfold nV at hu
 rw [List.mem_map] at hu
 obtain ⟨c, _, rfl⟩ := hu
 rfl
theorem n_one {X : World} {b v : Nat} (hx : X.heap[b]? = some (.cells #[.int .u32 (v : Int)] 22 (0, 0))) : Rd X 1 (.slice (some ⟨b, 0, none⟩) 1 1) 1 (nV [v]) := by
 refine ⟨_, _, rfl, rfl, by decide, ⟨fun h => by (cases h), by decide, by decide⟩, fun j u hu => ?_⟩
 refine ⟨b, 0, rfl, (Array.getElem?_eq_some_iff.1 hx).1, ?_⟩
 cases j with
 | zero => cases hu; exact cellOf hx 0 rfl
 | succ j => simp [nV] at hu
set_option maxRecDepth 100000 in
set_option maxHeartbeats 6400000 in
theorem tnodes1_at (X : World) (n : Nat) (hn4 : (n : Int) < 4294967296) (x : NdV) (g : Nat) (hg : X.heap[g]? = some (.cells #[.slice none 0 0] 43 (0, 0))) :
  Calls Tryz.prog 171 #[.int .u32 (n : Int), ndA x, .int .i64 0, .pointer (some ⟨g, 0, none⟩)] X fun e w' => e = .returned (.bool true) ∧ Mods [g] X w' ∧ ∃ v, w'.heap[g]? = some (.cells #[v] 43 (0, 0)) ∧ w'.ownsRow X.heap.size 22 1 v 1 (nV [n]) := by
 obtain ⟨a1, a2, e1, e2, e3⟩ := ndA_eq x
 rw [e1]
 obtain ⟨kd, hkd⟩ : ∃ z, x.k = z := ⟨_, rfl⟩
 obtain ⟨bb, hbb⟩ : ∃ z, x.b = z := ⟨_, rfl⟩
 obtain ⟨n1, hn1⟩ : ∃ z, x.n1 = z := ⟨_, rfl⟩
 obtain ⟨n2, hn2⟩ : ∃ z, x.n2 = z := ⟨_, rfl⟩
 obtain ⟨c1, hc1⟩ : ∃ z, x.c1 = z := ⟨_, rfl⟩
 obtain ⟨c2, hc2⟩ : ∃ z, x.c2 = z := ⟨_, rfl⟩
 rw [hkd, hbb, hn1, hn2, hc1, hc2]
 clear e1 e2 e3 hkd hbb hn1 hn2 hc1 hc2
 obtain ⟨w1, hw1⟩ : ∃ W, X.alloc (.cells #[.int .i64 kd, .int .u64 (bb : Int), .slice a1 n1 c1, .slice a2 n2 c2] 159) = W := ⟨_, rfl⟩
 have hb1 : Below X.heap.size X w1 := by rw [← hw1]; exact balloc (Below.refl _ _) _
 have HB1 := Lib.hid hb1
 have HX1 := Lib.hid ((hb1.block _ (Array.getElem?_eq_some_iff.1 hg).1).trans hg)
 have HGL : Hid (g < X.heap.size) := Lib.hid (Array.getElem?_eq_some_iff.1 hg).1
 have t0 := cellOf HX1.out 0 (v := .slice none 0 0) rfl
 clear hb1 hg
 go_enter Tryz.func171, Tryz.ntmps171
 go_upto_region 1 with fail
 (try rw [hw1])
 clear hw1
 apply wp_region_lit
 iterate 9 go_step
 obtain ⟨w2, hw2⟩ : ∃ W, w1.alloc (.cells #[.int .u32 (n : Int)] 22) = W := ⟨_, rfl⟩
 rw [hw2]
 have hb2 : Below w1.heap.size w1 w2 := by rw [← hw2]; exact balloc (Below.refl _ _) _
 have hx2 : w2.heap[w1.heap.size]? = some (.cells #[.int .u32 (n : Int)] 22 (0, 0)) := by rw [← hw2]; exact heap_alloc_new _ _
 have HB2 := Lib.hid (bthn HB1.out hb2)
 have HX2 := Lib.hid ((hb2.block _ (Array.getElem?_eq_some_iff.1 HX1.out).1).trans HX1.out)
 have HN2 := Lib.hid hx2
 clear hw2 hb2 hx2
 refine wpL_met (by kernel_rfl) (fun K hK => wp_apps _ _ 43 rfl X.heap.size 22 (.int .u32 0) 1 4 Tryz.underlying43 infoU32 rfl (by decide) (by decide) (.slice none 0 0) 0 [] rfl (World.ownsRow_nil w2 X.heap.size 22 1) (.slice (some ⟨w1.heap.size, 0, none⟩) 1 1) 1 (nV [n]) rfl (n_one HN2.out) (nV_one _) (by omega) HB2.out.size (fun v' w5 ho hb hgr hsn _ => hK _ _ ?_))
 rw [Nat.zero_add, List.nil_append] at ho
 obtain ⟨a5, c5, rfl⟩ := row_sl2 ho
 have HO5 := Lib.hid ho
 have HM5 : Hid (Mods [] X w5) := Lib.hid (Mods.of_below (HB2.out.trans hb))
 have HX5 := Lib.hid ((hb.block _ (Nat.lt_of_lt_of_le HGL.out (Nat.le_refl _))).trans HX2.out)
 clear t0 ho hb hgr hsn hK K
 have t0 := cellOf HX5.out 0 (v := .slice none 0 0) rfl
 have tf := frozenOf HX5.out 0
 go_upto_region 2 with fail
 clear t0 tf
 obtain ⟨w6, hw6⟩ : ∃ W, w5.setCell ⟨g, 0, none⟩ (.slice a5 1 c5) = W := ⟨_, rfl⟩
 rw [hw6]
 have HX6 : Hid (w6.heap[g]? = some (.cells #[.slice a5 1 c5] 43 (0, 0))) := Lib.hid (by rw [← hw6]; exact setOf HX5.out 0 _)
 have HM6 : Hid (Mods [g] w5 w6) := Lib.hid (by rw [← hw6]; exact (Mods.refl _ _).setCell (p := ⟨g, 0, none⟩) (List.mem_singleton.2 rfl) _)
 clear hw6
 go_wp2_with fail
 go_ret
 refine ⟨rfl, (HM5.out.mono (fun k hk => by simp at hk)).trans HM6.out (fun k hk => .inl hk), _, HX6.out, ?_⟩
 exact ownsRow_at HO5.out (fun k hk => HM6.out.block k (ownsRow_lt HO5.out k hk) (fun hh => ob_tag HO5.out HX5.out (by decide) (by rw [← List.mem_singleton.1 hh]; exact hk)))
set_option maxRecDepth 100000 in
set_option maxHeartbeats 6400000 in
theorem tnodes_leaf {w : World} {S B pm pd mf md : Nat} {s : Su} {A D : M} {Fm Fd : List Nat} {l : List (Nat × (NdV × Nd))} (h : StF w S B pm pd mf md s A D Fm Fd l) (n : Nat) (h0 : n ≠ 0) (hn : n < A.now.length) (hc : ctN A.now n ≠ 0) (x : NdV) (y : Nd) (hg : getA n l = some (x, y)) (hy : y.Ok) (hk : y.k ≠ 1) :
  Calls Tryz.prog 142 #[.pointer (some ⟨S, 0, none⟩), .int .u32 (n : Int)] w fun e w' => ∃ v, e = .returned (.tuple #[v, .int .i64 0]) ∧ Rd w' 1 v [n].length (nV [n]) ∧ Below w.heap.size w w' := by
 have hm9 := h.st.mok.max
 have hn4 : (n : Int) < 4294967296 := by omega
 have hn0 : ((n : Int) == 0) = false := by simp; omega
 obtain ⟨a0, ha0⟩ : ∃ W, w.alloc (.cells #[.slice none 0 0] 43) = W := ⟨_, rfl⟩
 have ba0 : Below w.heap.size w a0 := by rw [← ha0]; exact balloc (Below.refl _ _) _
 have xa0 : a0.heap[w.heap.size]? = some (.cells #[.slice none 0 0] 43 (0, 0)) := by rw [← ha0]; exact heap_alloc_new _ _
 have HB0 := Lib.hid ba0
 have HX0 := Lib.hid xa0
 have C := tmay_in (h.below HB0.out).st n hn
 have CW : Hid (∀ X, Below w.heap.size w X → X.heap[w.heap.size]? = some (.cells #[.slice none 0 0] 43 (0, 0)) → Calls Tryz.prog 86 #[.pointer (some ⟨S, 0, none⟩), .int .u32 (n : Int), .int .i64 0, .func (.func 171) #[] #[.pointer (some ⟨w.heap.size, 0, none⟩)]] X fun e w' => e = .returned (.tuple #[.bool true, .int .i64 0]) ∧ Mods [w.heap.size] X w' ∧ ∃ v, w'.heap[w.heap.size]? = some (.cells #[v] 43 (0, 0)) ∧ w'.ownsRow X.heap.size 22 1 v 1 (nV [n])) := Lib.hid (fun X hX hx => twalk_nodesT (h.below hX) n h0 hn hc x y hg hy hk (.pointer (some ⟨w.heap.size, 0, none⟩)) [w.heap.size] (fun k hk => by rw [List.mem_singleton.1 hk]; exact (Array.getElem?_eq_some_iff.1 hx).1) (fun W => ∃ v, W.heap[w.heap.size]? = some (.cells #[v] 43 (0, 0)) ∧ W.ownsRow X.heap.size 22 1 v 1 (nV [n])) (fun Y x1 hY hnd => (tnodes1_at Y n hn4 x1 w.heap.size ((hY.block _ (Array.getElem?_eq_some_iff.1 hx).1).trans hx)).mono fun e w' hp => by
  obtain ⟨he, hm, v, h1, h2⟩ := hp
  exact ⟨he, hm, v, h1, ownsRow_base h2 hY.size⟩))
 have hmf : ∀ (fn : Fn) (first cap : Array Value) (w : World), (Instr.makeFunc fn first cap).run Tryz.prog w = .ok (.func fn first cap) w := by intros; rfl
 clear h ba0 xa0 hg hc hk hy
 go_enter Tryz.func142, Tryz.ntmps142
 go_wp2_with fail
 (try rw [ha0])
 clear ha0
 refine C.mono ?_
 rintro e w1 ⟨rfl, hb1⟩
 have HB1 := Lib.hid (bthn HB0.out hb1)
 have CW1 := CW.out w1 HB1.out ((hb1.block _ (Array.getElem?_eq_some_iff.1 HX0.out).1).trans HX0.out)
 clear C hb1 CW
 go_wp2_with fail
 refine CW1.mono ?_
 rintro e w2 ⟨rfl, hm2, v2, hx2, ho2⟩
 obtain ⟨a2, c2, rfl⟩ := row_sl2 ho2
 have HX2 := Lib.hid hx2
 have HO2 := Lib.hid ho2
 have HM2 : Hid (Mods [] w w2) := Lib.hid ((Mods.of_below HB1.out).trans hm2 (fun k hk => .inr (by rw [List.mem_singleton.1 hk]; exact Nat.le_refl _)))
 have t0 := cellOf HX2.out 0 (v := .slice a2 1 c2) rfl
 have f0 := frozenOf HX2.out 0
 clear CW1 hm2 hx2 ho2 hmf
 go_wp2_with fail
 obtain ⟨w3, hw3⟩ : ∃ W, w2.setCell ⟨w.heap.size, 0, none⟩ (.slice a2 1 c2) = W := ⟨_, rfl⟩
 rw [hw3]
 have hx3 : w3.heap[w.heap.size]? = some (.cells #[.slice a2 1 c2] 43 (0, 0)) := by rw [← hw3]; exact setOf HX2.out 0 _
 have hm3 : Mods [w.heap.size] w2 w3 := by rw [← hw3]; exact (Mods.refl _ _).setCell (p := ⟨w.heap.size, 0, none⟩) (List.mem_singleton.2 rfl) _
 refine bodyPost_ret (v := .tuple #[.slice a2 1 c2, .int .i64 0]) ?_ rfl ⟨_, rfl, ?_, ?_⟩
 ·rw [results_cell_tmp rfl]
  have r1 := lv_one agg75 (cellOf hx3 0 (v := .slice a2 1 c2) rfl)
  simp only [asAddr, Array.getD_eq_getD_getElem?, List.getElem?_toArray, List.getElem?_cons_succ, List.getElem?_cons_zero, Option.getD_some, Sem.run_pure, Result.andThen_ok, r1]
 ·exact Rd.of_own (ownsRow_at HO2.out (fun k hk => hm3.block k (ownsRow_lt HO2.out k hk) (fun hh => ob_tag HO2.out HX2.out (by decide) (by rw [← List.mem_singleton.1 hh]; exact hk))))
 ·exact (HM2.out.trans hm3 (fun k hk => .inr (by rw [List.mem_singleton.1 hk]; exact Nat.le_refl _))).below (F := []) (fun k hk => by simp at hk) (Nat.le_refl _)
end Go.Proofs.YtgmahhdnjikdjaaGreat
/- diff.set, both, and what Of and Only tell where these fail, walked. -/
namespace Go.Proofs.YtgmahhdnjikdjaaGreat
open Go.RowKit Go.Maps Wire
set_option linter.unusedVariables false
set_option linter.unusedSimpArgs false
def isD (b : Bool) : DataW Unit := .lit (.bool b)
def RIs (v : Value) : Option (DataW Unit × List MemPlace) :=
 match v with
 | .agg ⟨[.bool b]⟩ => some (isD b, [])
 | _ => none
theorem RIs_mk (b : Bool) : RIs (.agg #[.bool b]) = some (isD b, []) := rfl
theorem RIs_inv {v : Value} {b : Bool} {ps : List MemPlace} (h : RIs v = some (isD b, ps)) : v = .agg #[.bool b] := by
 unfold RIs at h
 split at h
 ·rename_i c
  have e : c = b := by
   have h1 := (Prod.mk.inj (Option.some.inj h)).1
   exact Lit.bool.inj (DataW.lit.inj h1)
  rw [e]
 ·cases h
/-- A set of nodes in memory. -/
abbrev IsM (w : World) (m : Nat) (l : List (Nat × Bool)) : Prop := MapL w Tryz.prog 22 RIs .u32 isD m l
/-- The set of some nodes. -/
def mkS (ns : List Nat) : List (Nat × Bool) := ns.foldl (fun l n => putA n true l) []
theorem mkS_snoc (ns : List Nat) (n : Nat) : mkS (ns ++ [n]) = putA n true (mkS ns) := by simp [mkS, List.foldl_append]
theorem mkS_len (ns : List Nat) : (mkS ns).length ≤ ns.length := by
 unfold mkS
 have : ∀ (l : List (Nat × Bool)), (ns.foldl (fun l n => putA n true l) l).length ≤ l.length + ns.length := by
  induction ns with
  | nil => intro l; simp
  | cons a ns ih => intro l; rw [List.foldl_cons, List.length_cons]; have h1 := ih (putA a true l); have h2 := putA_len a true l; omega
 simpa using this []
theorem undIs : Tryz.prog.underlying 102 = some (.map 22 109) := by kernel_rfl
theorem zeroIs (w : World) : (zeroValue 109).run Tryz.prog w = .ok (.agg #[.bool false]) w := by kernel_rfl
theorem bIs (W : World) : (Instr.build 109 #[(0, .bool true)]).run Tryz.prog W = .ok (.agg #[.bool true]) W := run_build W 109 _ _ (by kernel_rfl)
theorem rd_mods {w w' : World} {size n : Nat} {v : Value} {xs : List Value} {F : List Nat} (h : Rd w size v n xs) (hm : Mods F w w') (hF : ∀ f ∈ F, ∃ es clock, w.heap[f]? = some (.map es clock)) : Rd w' size v n xs := by
 obtain ⟨ao, cap, hv, hl, hmx, hn, hc⟩ := h
 refine ⟨ao, cap, hv, hl, hmx, hn, fun j u hj => ?_⟩
 obtain ⟨b, off, ha, hlt, hcell⟩ := hc j u hj
 refine ⟨b, off, ha, Nat.lt_of_lt_of_le hlt hm.size, (World.cell?_of_block (hm.block b hlt (fun hb => ?_))).trans hcell⟩
 obtain ⟨es, clock, he⟩ := hF b hb
 unfold World.cell? at hcell
 rw [show (⟨b, off + j, none⟩ : Addr).block = b from rfl, he] at hcell
 cases hcell
/-- A number of a row of numbers. -/
theorem rd_n {w : World} {ao : Option Addr} {n c : Nat} {xs : List Nat} (h : Rd w 1 (.slice ao n c) n (nV xs)) (h0 : 0 < xs.length) : ∃ b0 off, ao = some ⟨b0, off, none⟩ ∧ b0 < w.heap.size ∧ ∀ (j x : Nat), xs[j]? = some x → w.cell? ⟨b0, off + j, none⟩ = some (.int .u32 (x : Int)) := by
 obtain ⟨ao', c', he, _, _, _, hc⟩ := h
 obtain ⟨rfl, _, _⟩ := Value.slice.inj he
 have hg : ∀ (j x : Nat), xs[j]? = some x → (nV xs)[j]? = some (.int .u32 (x : Int)) := fun j x hj => by simp [nV, hj]
 obtain ⟨x0, hx0⟩ : ∃ x, xs[0]? = some x := ⟨_, List.getElem?_eq_getElem h0⟩
 obtain ⟨b0, off, ha, hb, _⟩ := hc 0 _ (hg 0 x0 hx0)
 refine ⟨b0, off, ha, hb, fun j x hj => ?_⟩
 obtain ⟨b1, o1, e1, _, h1⟩ := hc j _ (hg j x hj)
 rw [ha] at e1
 obtain ⟨rfl, rfl⟩ : b0 = b1 ∧ off = o1 := by cases e1; exact ⟨rfl, rfl⟩
 exact h1
/-- What Nodes tells. -/
def NodesP (ns : List Nat) (er : Int) (X : World) (e : Ending) (w' : World) : Prop := ∃ v, e = .returned (.tuple #[v, .int .i64 er]) ∧ Rd w' 1 v ns.length (nV ns) ∧ Below X.heap.size X w'
/-- What set tells. -/
def SetP (ns : List Nat) (er : Int) (X : World) (e : Ending) (w' : World) : Prop := ∃ m, e = .returned (.tuple #[.map (some m), .int .i64 er]) ∧ IsM w' m (mkS ns) ∧ X.heap.size ≤ m ∧ Below X.heap.size X w'
set_option maxRecDepth 100000 in
set_option maxHeartbeats 6400000 in
theorem dset_by (w : World) (s : Option Addr) (root er : Int) (ns : List Nat) (hl : ns.length ≤ 1000) (hn : ∀ n ∈ ns, n < 4294967296) (hC : Calls Tryz.prog 142 #[.pointer s, .int .u32 root] w (NodesP ns er w)) :
  Calls Tryz.prog 97 #[.pointer s, .int .u32 root] w (SetP ns er w) := by
 have HN := Lib.hid hn
 have HL := Lib.hid hl
 clear hn hl
 go_enter Tryz.func97, Tryz.ntmps97
 go_wp2_with fail
 refine hC.mono ?_
 rintro e w1 ⟨v, rfl, hrd, hb1⟩
 obtain ⟨a1, c1, rfl, _⟩ := id hrd
 have HB1 := Lib.hid hb1
 have HR1 := Lib.hid hrd
 obtain ⟨n, hnn⟩ : ∃ n, ns.length = n := ⟨_, rfl⟩
 have HNN := Lib.hid hnn
 rw [hnn] at HR1 ⊢
 clear hC hrd hb1 hnn
 dsimp only
 have hmm := @run_makeMap Tryz.prog
 go_upto_region 3 with fail
 clear hmm
 obtain ⟨w2, hw2⟩ : ∃ W, w1.alloc (.map #[] 0) = W := ⟨_, rfl⟩
 rw [hw2]
 have hb2 : Below w1.heap.size w1 w2 := by rw [← hw2]; exact balloc (Below.refl _ _) _
 have hx2 : w2.heap[w1.heap.size]? = some (.map #[] 0) := by rw [← hw2]; exact heap_alloc_new _ _
 have HM2 : Hid (IsM w2 w1.heap.size (mkS [])) := Lib.hid (mapL_at1 hx2 (Mods.refl [] w2) (by simp))
 have HB2 := Lib.hid (bthn HB1.out hb2)
 have HR2 := Lib.hid (HR1.out.below hb2)
 have HMG : Hid (w.heap.size ≤ w1.heap.size) := Lib.hid HB1.out.size
 obtain ⟨m, hm⟩ : ∃ m, w1.heap.size = m := ⟨_, rfl⟩
 rw [hm] at HM2 HMG ⊢
 clear hw2 hb2 hx2 hm
 go_wp2_with fail
 go_loopw [20] (fun v wr => ∃ i : Nat, i ≤ n ∧ v = .int .i64 (i : Int) ∧ IsM wr m (mkS (ns.take i)) ∧ Mods [m] w2 wr) (fun v _ => n - (Go.RowKit.intOf v).toNat)
 case atStart => exact ⟨0, by omega, rfl, HM2.out, Mods.refl _ _⟩
 case round =>
  obtain ⟨i, hi, rfl, hml, hmo⟩ := hrel
  have HML := Lib.hid hml
  have HMO := Lib.hid hmo
  clear hml hmo
  by_cases hlt : i < n
  ·have hi9 : n ≤ 1000 := by have h1 := HL.out; have h2 := HNN.out; omega
   have hli : i < ns.length := by rw [HNN.out]; exact hlt
   obtain ⟨k, hk⟩ : ∃ k, ns[i]? = some k := ⟨_, List.getElem?_eq_getElem hli⟩
   obtain ⟨b0, off, rfl, _, hcell⟩ := rd_n (rd_mods HR2.out HMO.out (fun f hf => by rw [List.mem_singleton.1 hf]; exact HM2.out.isMap)) (by omega)
   have hc := hcell i k hk
   have hk4 : k < 4294967296 := HN.out k (List.mem_of_getElem? hk)
   obtain ⟨wz, hup, hml, hmo⟩ := HML.out.put undU32 undIs (n := k) (Nat.lt_of_le_of_lt (mkS_len _) (by have h1 := HL.out; have h2 := List.length_take_le i ns; unfold maxLen; omega)) (wf32 hk4) (v := .agg #[.bool true]) (a := true) (ps := []) (RIs_mk true)
   have hbi := bIs
   have HK := Lib.hid hk
   have HML2 := Lib.hid hml
   have HMO2 := Lib.hid hmo
   have hlt' : (i : Int) < (n : Int) := by omega
   clear hcell hli hk hml hmo
   go_wp2_with fail
   clear hup hbi hc
   go_roundw
   case rel => exact ⟨i + 1, by omega, by go_num, by rw [List.take_add_one, HK.out]; exact (mkS_snoc _ _) ▸ HML2.out, HMO.out.trans HMO2.out (fun k hk => .inl hk)⟩
   case measure => simp [Go.RowKit.intOf]; omega
  ·obtain rfl : i = n := by omega
   go_wp2_with fail
   go_ret2
   refine ⟨m, rfl, ?_, HMG.out, ?_⟩
   ·have := HML.out
    rw [List.take_of_length_le (by rw [HNN.out]; exact Nat.le_refl _)] at this
    exact this
   ·exact ((Mods.of_below HB2.out).trans HMO.out (fun k hk => .inr (by rw [List.mem_singleton.1 hk]; exact HMG.out))).below (F := []) (fun k hk => by simp at hk) (Nat.le_refl _)
/-- What both tells. -/
def BothP (na nb : List Nat) (eb : Int) (X : World) (e : Ending) (w' : World) : Prop := ∃ ma mb, e = .returned (.tuple #[.map (some ma), .map (some mb), .int .i64 eb]) ∧ IsM w' ma (mkS na) ∧ IsM w' mb (mkS nb) ∧ Below X.heap.size X w'
set_option maxRecDepth 100000 in
set_option maxHeartbeats 3200000 in
theorem dboth_err (w : World) (s : Option Addr) (ra rb ea : Int) (na : List Nat) (he : ea ≠ 0) (hA : Calls Tryz.prog 97 #[.pointer s, .int .u32 ra] w (SetP na ea w)) :
  Calls Tryz.prog 50 #[.pointer s, .int .u32 ra, .int .u32 rb] w fun e w' => e = .returned (.tuple #[.map none, .map none, .int .i64 ea]) ∧ Below w.heap.size w w' := by
 have h1 : (ea == 0) = false := by simp; exact he
 have h2 : (ea != 0) = true := by simp [bne, h1]
 clear he
 go_enter Tryz.func50, Tryz.ntmps50
 go_wp2_with fail
 refine hA.mono ?_
 rintro e w1 ⟨m, rfl, hm, hg, hb1⟩
 have HB1 := Lib.hid hb1
 clear hA hm hg hb1
 dsimp only
 go_wp2_with fail
 go_ret3
 exact ⟨rfl, HB1.out⟩
set_option maxRecDepth 100000 in
set_option maxHeartbeats 3200000 in
theorem dboth_ok (w : World) (s : Option Addr) (ra rb eb : Int) (na nb : List Nat) (hA : Calls Tryz.prog 97 #[.pointer s, .int .u32 ra] w (SetP na 0 w)) (hB : ∀ X, Below w.heap.size w X → Calls Tryz.prog 97 #[.pointer s, .int .u32 rb] X (SetP nb eb X)) :
  Calls Tryz.prog 50 #[.pointer s, .int .u32 ra, .int .u32 rb] w (BothP na nb eb w) := by
 have HB := Lib.hid hB
 clear hB
 go_enter Tryz.func50, Tryz.ntmps50
 go_wp2_with fail
 refine hA.mono ?_
 rintro e w1 ⟨m, rfl, hm, hg, hb1⟩
 have HB1 := Lib.hid hb1
 have HM1 := Lib.hid hm
 have C := HB.out w1 hb1
 clear hA hm hg hb1
 dsimp only
 go_wp2_with fail
 refine C.mono ?_
 rintro e w2 ⟨m2, rfl, hm2, hg2, hb2⟩
 have HM1 := Lib.hid (HM1.out.below hb2)
 have HM2 := Lib.hid hm2
 have HB2 := Lib.hid (bthn HB1.out hb2)
 clear C hm2 hg2 hb2
 dsimp only
 go_wp2_with fail
 go_ret3
 exact ⟨m, m2, rfl, HM1.out, HM2.out, HB2.out⟩
set_option maxRecDepth 100000 in
set_option maxHeartbeats 6400000 in
theorem dof_err (w : World) (s : Option Addr) (ra rb er : Int) (he : er ≠ 0) (hA : Calls Tryz.prog 50 #[.pointer s, .int .u32 ra, .int .u32 rb] w fun e w' => ∃ va vb, e = .returned (.tuple #[.map va, .map vb, .int .i64 er]) ∧ Below w.heap.size w w') :
  Calls Tryz.prog 17 #[.pointer s, .int .u32 ra, .int .u32 rb] w fun e w' => e = .returned (.tuple #[.slice none 0 0, .int .i64 er]) ∧ Below w.heap.size w w' := by
 have h1 : (er == 0) = false := by simp; exact he
 have h2 : (er != 0) = true := by simp [bne, h1]
 clear he
 go_enter Tryz.func17, Tryz.ntmps17
 go_wp2_with fail
 go_step3
 go_wp2_with fail
 refine hA.mono ?_
 rintro e w1 ⟨va, vb, rfl, hb1⟩
 have HB1 := Lib.hid hb1
 clear hA hb1
 dsimp only
 go_wp2_with fail
 (try rw [Exit.noGoto_ret])
 (try simp only [Exit.inBlock, Exit.then])
 (try rw [Exit.noGoto_ret])
 (try simp only [Exit.inBlock, Exit.then])
 go_ret2
 exact ⟨rfl, HB1.out⟩
set_option maxRecDepth 100000 in
set_option maxHeartbeats 6400000 in
theorem donly_err (w : World) (s : Option Addr) (ra rb er : Int) (he : er ≠ 0) (hA : Calls Tryz.prog 50 #[.pointer s, .int .u32 ra, .int .u32 rb] w fun e w' => ∃ va vb, e = .returned (.tuple #[.map va, .map vb, .int .i64 er]) ∧ Below w.heap.size w w') :
  Calls Tryz.prog 18 #[.pointer s, .int .u32 ra, .int .u32 rb] w fun e w' => e = .returned (.tuple #[.slice none 0 0, .slice none 0 0, .int .i64 er]) ∧ Below w.heap.size w w' := by
 have h1 : (er == 0) = false := by simp; exact he
 have h2 : (er != 0) = true := by simp [bne, h1]
 clear he
 go_enter Tryz.func18, Tryz.ntmps18
 go_wp2_with fail
 refine hA.mono ?_
 rintro e w1 ⟨va, vb, rfl, hb1⟩
 have HB1 := Lib.hid hb1
 clear hA hb1
 dsimp only
 go_wp2_with fail
 go_ret3
 exact ⟨rfl, HB1.out⟩
end Go.Proofs.YtgmahhdnjikdjaaGreat
/- diff.pairs of a leaf that is not in the other tree, walked. -/
namespace Go.Proofs.YtgmahhdnjikdjaaGreat
open Go.RowKit Go.Maps Wire
set_option linter.unusedVariables false
set_option linter.unusedSimpArgs false
/-- A node's keys and values. -/
def Nd.prs (y : Nd) : List (Nat × Nat) := y.keys.zip y.vals
theorem prs_get {y : Nd} {i k v : Nat} (hk : y.keys[i]? = some k) (hv : y.vals[i]? = some v) : y.prs[i]? = some (k, v) := by
 unfold Nd.prs
 rw [List.getElem?_zip_eq_some]
 exact ⟨hk, hv⟩
theorem prs_len {y : Nd} (h : y.vals.length = y.keys.length) : y.prs.length = y.keys.length := by
 unfold Nd.prs
 rw [List.length_zip, h, Nat.min_self]
/-- What pairs tells. -/
def PairsP (l : List (Nat × Nat)) (X : World) (e : Ending) (w' : World) : Prop := ∃ v, e = .returned (.tuple #[v, .int .i64 0]) ∧ w'.ownsRow X.heap.size 94 2 v l.length (pV l) ∧ Below X.heap.size X w'
theorem pr_one {X : World} {b k v : Nat} (hx : X.heap[b]? = some (.cells #[.int .u64 (k : Int), .int .u64 (v : Int)] 94 (0, 0))) : Rd X 2 (.slice (some ⟨b, 0, none⟩) 1 1) 1 (pV [(k, v)]) := by
 refine ⟨_, _, rfl, rfl, by decide, ⟨fun h => by (cases h), by decide, by decide⟩, fun j u hu => ?_⟩
 refine ⟨b, 0, rfl, (Array.getElem?_eq_some_iff.1 hx).1, ?_⟩
 rcases j with _ | _ | j
 ·cases hu; exact cellOf hx 0 rfl
 ·cases hu; exact cellOf hx 1 rfl
 ·simp [pV] at hu
theorem infoPr2 : (Tryz.prog.info? 94).map (fun i => (i.zero, i.size)) = some (some (.agg #[.int .u64 0, .int .u64 0]), 2) := by kernel_rfl
theorem pr_built (a b : Int) : Tryz.prog.built 94 [(0, .int .u64 a), (1, .int .u64 b)] = some #[.int .u64 a, .int .u64 b] := by kernel_rfl
theorem fldIs (b : Bool) (W : World) : (Instr.field 109 (.agg #[.bool b]) 0).run Tryz.prog W = .ok (.bool b) W := by kernel_rfl
set_option maxRecDepth 100000 in
set_option maxHeartbeats 12800000 in
theorem dpairs_leaf {w : World} {S B pm pd mf md : Nat} {s : Su} {A D : M} {Fm Fd : List Nat} {l : List (Nat × (NdV × Nd))} (h : StF w S B pm pd mf md s A D Fm Fd l) (n : Nat) (h0 : n ≠ 0) (hn : n < A.now.length) (hc : ctN A.now n ≠ 0) (x : NdV) (y : Nd) (hg : getA n l = some (x, y)) (hy : y.Ok) (hk : y.k ≠ 1) (m : Nat) (lo : List (Nat × Bool)) (hm : IsM w m lo) (hno : getA n lo = none) :
  Calls Tryz.prog 51 #[.pointer (some ⟨S, 0, none⟩), .int .u32 (n : Int), .map (some m)] w (PairsP y.prs w) := by
 have hm9 := h.st.mok.max
 have hyn := hy.n
 have hym := hy.m
 have hn4 : (n : Int) < 4294967296 := by omega
 have hn0 : ((n : Int) == 0) = false := by simp; omega
 obtain ⟨vz, pz, hlk, hrz⟩ := hm.look undU32 undIs (zeroIs w) (RIs_mk false) (wf32 (n := n) (by omega))
 rw [hno] at hrz
 obtain rfl := RIs_inv hrz
 have CN := snode_in h n h0 hn hc x y hg (by omega) (by omega)
 have hfl := fldIs false
 have hk1 : (y.k == 1) = false := by simp; exact hk
 have HYM := Lib.hid hym
 have HYN := Lib.hid hyn
 clear h hg hc hk hy hyn hym hm hno hrz
 go_enter Tryz.func51, Tryz.ntmps51
 go_wp2_with fail
 refine CN.mono ?_
 rintro e w2 ⟨x1, rfl, hnd, hb2⟩
 have HB2 := Lib.hid hb2
 have HN2 := Lib.hid hnd
 obtain ⟨a1, a2, e1, e2, e3⟩ := ndA_eq x1
 rw [e1]
 have HE := Lib.hid (And.intro e2 e3)
 have HKB : Hid (x1.k = y.k ∧ x1.b = y.b ∧ x1.n1 = y.keys.length ∧ x1.n2 = y.vals.length) := Lib.hid ⟨hnd.k, hnd.b, hnd.n1, hnd.n2⟩
 obtain ⟨kd, hkd⟩ : ∃ z, x1.k = z := ⟨_, rfl⟩
 obtain ⟨bb, hbb⟩ : ∃ z, x1.b = z := ⟨_, rfl⟩
 obtain ⟨n1, hn1⟩ : ∃ z, x1.n1 = z := ⟨_, rfl⟩
 obtain ⟨n2, hn2⟩ : ∃ z, x1.n2 = z := ⟨_, rfl⟩
 obtain ⟨c1, hc1⟩ : ∃ z, x1.c1 = z := ⟨_, rfl⟩
 obtain ⟨c2, hc2⟩ : ∃ z, x1.c2 = z := ⟨_, rfl⟩
 rw [hkd, hbb, hn1, hn2, hc1, hc2]
 rw [hkd, hbb, hn1, hn2] at HKB
 rw [← HKB.out.1] at hk1
 have hk2 : (kd != 1) = true := by simp [bne, hk1]
 obtain ⟨w3, hw3⟩ : ∃ W, w2.alloc (.cells #[.int .i64 kd, .int .u64 (bb : Int), .slice a1 n1 c1, .slice a2 n2 c2] 159) = W := ⟨_, rfl⟩
 have hb3 : Below w2.heap.size w2 w3 := by rw [← hw3]; exact balloc (Below.refl _ _) _
 have hx3 : w3.heap[w2.heap.size]? = some (.cells #[.int .i64 kd, .int .u64 (bb : Int), .slice a1 n1 c1, .slice a2 n2 c2] 159 (0, 0)) := by rw [← hw3]; exact heap_alloc_new _ _
 have HX3 := Lib.hid hx3
 have HB3 := Lib.hid (bthn HB2.out hb3)
 have HR1 : Hid (Rd w3 1 (.slice a1 n1 c1) n1 (qV y.keys)) := Lib.hid (by
  have := (Rd.of_own HN2.out.r1).below hb3
  rw [HE.out.1, hn1, hc1, ← HKB.out.2.2.1] at this
  exact this)
 have HR2 : Hid (Rd w3 1 (.slice a2 n2 c2) n2 (qV y.vals)) := Lib.hid (by
  have := (Rd.of_own HN2.out.r2).below hb3
  rw [HE.out.2, hn2, hc2, ← HKB.out.2.2.2] at this
  exact this)
 have HLN : Hid (y.keys.length = n1 ∧ y.vals.length = n1 ∧ n2 = n1 ∧ n1 ≤ 6 ∧ y.prs.length = n1) := Lib.hid (by
  have h1 := HKB.out
  have h2 := HYM.out
  have h3 := HYN.out
  have h4 := prs_len HYM.out
  omega)
 obtain ⟨q, hq⟩ : ∃ q, w2.heap.size = q := ⟨_, rfl⟩
 rw [hq] at HX3
 have d3 := cellOf HX3.out 3 (v := .slice a2 n2 c2) rfl
 clear CN hnd hb2 e1 e2 e3 hkd hbb hn1 hn2 hc1 hc2 hb3 hx3 hlk
 dsimp only
 go_wp2_with fail
 (try rw [hw3])
 (try rw [hq])
 clear hw3 hq d3
 go_loopw [30, 6, 7] (fun v o e7 wr => e7 = .int .i64 0 ∧ ∃ i : Nat, i ≤ n2 ∧ v = .int .i64 (i : Int) ∧ wr.ownsRow w3.heap.size 94 2 o i (pV (y.prs.take i)) ∧ Below w3.heap.size w3 wr) (fun v _ _ _ => n2 - (Go.RowKit.intOf v).toNat)
 case atStart => exact ⟨rfl, 0, by omega, rfl, World.ownsRow_nil w3 w3.heap.size 94 2, Below.refl _ _⟩
 case round =>
  obtain ⟨rfl, i, hi, rfl, ho, hbr⟩ := hrel
  have HO := Lib.hid ho
  have HBR := Lib.hid hbr
  clear ho hbr
  by_cases hlt : i < n2
  ·obtain ⟨k, hk⟩ : ∃ k, y.keys[i]? = some k := ⟨_, List.getElem?_eq_getElem (by have := HLN.out; omega)⟩
   obtain ⟨v, hv⟩ : ∃ v, y.vals[i]? = some v := ⟨_, List.getElem?_eq_getElem (by have := HLN.out; omega)⟩
   obtain ⟨b1, o1, rfl, _, hc1⟩ := rd_at (HR1.out.below HBR.out) (by have := HLN.out; omega)
   obtain ⟨b2, o2, rfl, _, hc2⟩ := rd_at (HR2.out.below HBR.out) (by have := HLN.out; omega)
   have g1 := hc1 i k hk
   have g2 := hc2 i v hv
   have HP : Hid (y.prs[i]? = some (k, v)) := Lib.hid (prs_get hk hv)
   have HXR := Lib.hid ((HBR.out.block _ (Array.getElem?_eq_some_iff.1 HX3.out).1).trans HX3.out)
   have d0 := cellOf HXR.out 0 (v := .int .i64 kd) rfl
   have d2 := cellOf HXR.out 2 (v := .slice (some ⟨b1, o1, none⟩) n1 c1) rfl
   have hn6 : n2 ≤ 6 := by have := HLN.out; omega
   have hlt' : (i : Int) < (n2 : Int) := by omega
   have hlt1 : (i : Int) < (n1 : Int) := by have := HLN.out; omega
   obtain ⟨ao, co, rfl⟩ := row_sl2 HO.out
   clear hc1 hc2 hk hv
   go_upto_region 8 with fail
   apply wp_region_lit
   iterate 21 go_step
   refine wpL_build (by kernel_rfl) 94 _ rfl _ (by simp only [List.map_toArray, List.map_cons, List.map_nil]; rfl) _ (pr_built _ _) ?_
   clear g1 g2 d0 d2 hlt' hlt1
   refine wpList_build1 rfl _ 59 94 2 (.agg #[.int .u64 0, .int .u64 0]) [.int .u64 (k : Int), .int .u64 (v : Int)] rfl rfl Tryz.underlying59 infoPr2 rfl rfl (by decide) (by decide) ?_
   dsimp only [Act.put]
   obtain ⟨w4, hw4⟩ : ∃ W, wr.alloc (.cells #[.int .u64 (k : Int), .int .u64 (v : Int)] 94) = W := ⟨_, rfl⟩
   have hb4 : Below wr.heap.size wr w4 := by rw [← hw4]; exact balloc (Below.refl _ _) _
   have hx4 : w4.heap[wr.heap.size]? = some (.cells #[.int .u64 (k : Int), .int .u64 (v : Int)] 94 (0, 0)) := by rw [← hw4]; exact heap_alloc_new _ _
   rw [hw4]
   have HX4 := Lib.hid hx4
   have HO4 := Lib.hid (ownsRow_below HO.out hb4)
   have HB4 := Lib.hid (bthn HBR.out hb4)
   clear hw4 hb4 hx4
   refine wpL_met (by kernel_rfl) (fun K hK => wp_apps _ _ 59 rfl w3.heap.size 94 (.agg #[.int .u64 0, .int .u64 0]) 2 16 Tryz.underlying59 infoPr rfl (by decide) (by decide) (.slice ao i co) i (pV (y.prs.take i)) rfl HO4.out (.slice (some ⟨wr.heap.size, 0, none⟩) 1 1) 1 (pV [(k, v)]) rfl (pr_one HX4.out) (pV_one _) (by have := HLN.out; omega) HB4.out.size (fun v' w5 ho hb hgr hsn _ => hK _ _ ?_))
   have HO5 := Lib.hid ho
   have HB5 := Lib.hid (HB4.out.trans hb)
   obtain ⟨a5, c5, rfl⟩ := row_sl2 ho
   clear ho hb hgr hsn hK K
   go_wp2_with fail
   go_roundw
   case rel => exact ⟨rfl, i + 1, by omega, by go_num, by rw [List.take_add_one, HP.out]; show _ ∧ _; have h9 := HO5.out; rw [← pV_app] at h9; exact h9, HB5.out⟩
   case measure => simp [Go.RowKit.intOf]; omega
  ·obtain rfl : i = n2 := by omega
   obtain ⟨ao, co, rfl⟩ := row_sl2 HO.out
   go_wp2_with fail
   go_ret2
   refine ⟨.slice ao i co, rfl,  ?_, HB3.out.trans (HBR.out.mono HB3.out.size)⟩
   have h9 := HO.out
   rw [List.take_of_length_le (by have := HLN.out; omega)] at h9
   rw [show y.prs.length = i by have := HLN.out; omega]
   exact ownsRow_base h9 HB3.out.size
end Go.Proofs.YtgmahhdnjikdjaaGreat
