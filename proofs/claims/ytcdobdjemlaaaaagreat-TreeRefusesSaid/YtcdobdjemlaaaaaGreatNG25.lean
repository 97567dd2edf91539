import Derived.Test.YtcdobdjemlaaaaaGreatNG21
import Derived.Test.YtcdobdjemlaaaaaGreatNG17
import Derived.Test.YtcdobdjemlaaaaaGreatNG24
set_option linter.unusedVariables false
set_option linter.unusedSimpArgs false
/- btree: what is answered of a store that is not there, and of an empty tree, walked. -/
namespace Go.Proofs.YtcdobdjemlaaaaaGreat
open Go.RowKit Go.Maps Wire
set_option linter.unusedVariables false
set_option linter.unusedSimpArgs false
theorem results_t4 {fn : Func} {t u v x : Tmp} (h : fn.results = #[.tmp t, .tmp u, .tmp v, .tmp x]) (tmps : Array Value) (P : Program) (w : World) :
  (results fn tmps).run P w = .ok (.tuple #[tmps.getD t undef, tmps.getD u undef, tmps.getD v undef, tmps.getD x undef]) w := by
 simp [results, h, Sem.run_bind, Result.andThen]
theorem agg72 (w : World) : (isAgg 72).run Tryz.prog w = .ok false w := by kernel_rfl
theorem agg75 (w : World) : (isAgg 75).run Tryz.prog w = .ok false w := by kernel_rfl
set_option maxRecDepth 100000 in
set_option maxHeartbeats 6400000 in
theorem tmay_no (w : World) (v : Value) (h : StV w v) (n : Int) : Calls Tryz.prog 85 #[v, .int .u32 n] w fun e w' => e = .returned (.int .i64 1) ∧ Below w.heap.size w w' := by
 have CS := ssuper_no w v h
 obtain ⟨SL, hSL⟩ : ∃ L, suZ = L := ⟨_, rfl⟩
 have HMT : Hid (SL[1]? = some (.int .i64 0)) := Lib.hid (by rw [← hSL]; rfl)
 have HS19 : Hid (SL.length = 19) := Lib.hid (by rw [← hSL]; rfl)
 have HS1 : Hid (SL.toArray.all (·.oneCell') = true) := Lib.hid (by rw [← hSL]; kernel_rfl)
 have hss : SL.toArray.size = 19 := by rw [List.size_toArray, HS19.out]
 rw [hSL] at CS
 obtain ⟨a, rfl⟩ := h.ptr
 clear h hSL
 go_enter Tryz.func85, Tryz.ntmps85
 go_wp2_with fail
 refine CS.mono ?_
 rintro e w2 ⟨rfl, hb2⟩
 have HB2 := Lib.hid hb2
 clear CS hb2
 dsimp only
 repeat (first
  | (refine wpList_store_mid rfl 29 _ _ rfl w2.heap.size 0 SL.toArray rfl rfl (thereOf (heap_alloc_new w2 _) (by rw [hss]; simp)) (by rw [hss]; exact infoSup) HS1.out ?_; refine Hid.out ?_)
  | go_step)
 refine Lib.hid ?_
 obtain ⟨w4, hw4⟩ : ∃ W, (w2.alloc (.cells #[.int .u64 0, .int .i64 0, .int .i64 0, .int .u32 0, .int .u32 0, .int .u32 0, .int .u32 0, .int .u32 0, .int .u32 0, .int .u32 0, .int .u32 0, .int .u32 0, .int .i64 0, .int .u64 0, .int .u64 0, .int .u64 0, .int .u64 0, .int .u64 0, .bool false] 29)).setCells w2.heap.size 0 SL = W := ⟨_, rfl⟩
 have HB4 : Hid (Below w.heap.size w w4) := Lib.hid (by rw [← hw4]; exact bthn HB2.out (belowSets (Nat.le_refl _) _ _ _ (balloc (Below.refl _ _) _)))
 obtain ⟨g4, hg4⟩ : ∃ g, w2.heap.size = g := ⟨_, rfl⟩
 have HR4 : Hid (w4.rangeAt g4 0 SL) := Lib.hid (by rw [← hw4, ← hg4]; exact World.rangeAt_setCells_same _ _ _ _ (thereOf (heap_alloc_new w2 _) (by rw [HS19.out]; simp)))
 have hc1 : w4.cell? ⟨g4, 1, none⟩ = some (.int .i64 0) := HR4.out 1 _ HMT.out
 simp only [List.toList_toArray]
 rw [hw4, hg4]
 clear hw4 hg4
 go_wp2_with fail
 go_ret
 exact ⟨rfl, HB4.out⟩
set_option maxRecDepth 100000 in
set_option maxHeartbeats 3200000 in
theorem tget_no (w : World) (v : Value) (h : StV w v) (r : Int) (k : Int) : Calls Tryz.prog 30 #[v, .int .u32 r, .int .u64 k] w fun e w' => e = .returned (.tuple #[.int .u64 0, .bool false, .int .i64 1]) ∧ Below w.heap.size w w' := by
 have HB0 : Hid (Below w.heap.size w w) := Lib.hid (Below.refl _ _)
 have C := tmay_no w v h r
 obtain ⟨a, rfl⟩ := h.ptr
 clear h 
 go_enter Tryz.func30, Tryz.ntmps30
 go_wp2_with fail
 refine C.mono ?_
 rintro e w1 ⟨rfl, hb1⟩
 have HB1 := Lib.hid (bthn HB0.out hb1)
 clear C hb1
 go_wp2_with fail
 go_ret3
 exact ⟨rfl, HB1.out⟩
set_option maxRecDepth 100000 in
set_option maxHeartbeats 3200000 in
theorem tput_no (w : World) (v : Value) (h : StV w v) (r : Int) (kd k u : Int) : Calls Tryz.prog 31 #[v, .int .u32 r, .int .i64 kd, .int .u64 k, .int .u64 u] w fun e w' => e = .returned (.tuple #[.int .u32 0, .int .u64 0, .bool false, .int .i64 1]) ∧ Below w.heap.size w w' := by
 have HB0 : Hid (Below w.heap.size w w) := Lib.hid (Below.refl _ _)
 have C := tmay_no w v h r
 obtain ⟨a, rfl⟩ := h.ptr
 clear h 
 go_enter Tryz.func31, Tryz.ntmps31
 go_wp2_with fail
 refine C.mono ?_
 rintro e w1 ⟨rfl, hb1⟩
 have HB1 := Lib.hid (bthn HB0.out hb1)
 clear C hb1
 go_wp2_with fail
 refine bodyPost_ret (results_t4 rfl _ _ _) rfl ?_
 exact ⟨rfl, HB1.out⟩
set_option maxRecDepth 100000 in
set_option maxHeartbeats 3200000 in
theorem tnodes_no (w : World) (v : Value) (h : StV w v) (r : Int) : Calls Tryz.prog 34 #[v, .int .u32 r] w fun e w' => e = .returned (.tuple #[.slice none 0 0, .int .i64 1]) ∧ Below w.heap.size w w' := by
 obtain ⟨a0, ha0⟩ : ∃ W, w.alloc (.cells #[.slice none 0 0] 75) = W := ⟨_, rfl⟩
 have ba0 : Below w.heap.size w a0 := by rw [← ha0]; exact balloc (Below.refl _ _) _
 have xa0 : a0.heap[w.heap.size]? = some (.cells #[.slice none 0 0] 75 (0, 0)) := by rw [← ha0]; exact heap_alloc_new _ _
 have HZ : Hid (w.heap.size ≤ w.heap.size) := Lib.hid (Nat.le_refl _)
 have HB0 : Hid (Below w.heap.size w a0) := Lib.hid (ba0)
 have HX0 := Lib.hid xa0
 have C := tmay_no a0 v (h.below (HB0.out)) r
 obtain ⟨a, rfl⟩ := h.ptr
 clear h ba0 xa0
 go_enter Tryz.func34, Tryz.ntmps34
 go_wp2_with fail
 (try rw [ha0])
 clear ha0
 refine C.mono ?_
 rintro e w1 ⟨rfl, hb1⟩
 have HB1 := Lib.hid (bthn HB0.out hb1)
 have HX1 := Lib.hid ((hb1.block _ (Array.getElem?_eq_some_iff.1 HX0.out).1).trans HX0.out)
 have t0 := cellOf HX1.out 0 (v := .slice none 0 0) rfl
 have f0 := frozenOf HX1.out 0
 clear C hb1
 go_wp2_with fail
 obtain ⟨w2, hw2⟩ : ∃ W, w1.setCell ⟨w.heap.size, 0, none⟩ (.slice none 0 0) = W := ⟨_, rfl⟩
 rw [hw2]
 have hx2 : w2.heap[w.heap.size]? = some (.cells #[.slice none 0 0] 75 (0, 0)) := by rw [← hw2]; exact setOf HX1.out 0 _
 have hb2 : Below w.heap.size w w2 := by rw [← hw2]; exact HB1.out.setCell (p := ⟨w.heap.size, 0, none⟩) HZ.out _
 refine bodyPost_ret (v := .tuple #[.slice none 0 0, .int .i64 1]) ?_ rfl ⟨rfl, hb2⟩
 rw [results_cell_tmp rfl]
 have r1 := lv_one agg75 (cellOf hx2 0 (v := .slice none 0 0) rfl)
 simp only [asAddr, Array.getD_eq_getD_getElem?, List.getElem?_toArray, List.getElem?_cons_succ, List.getElem?_cons_zero, Option.getD_some, Sem.run_pure, Result.andThen_ok, r1]
set_option maxRecDepth 100000 in
set_option maxHeartbeats 3200000 in
theorem tall_no (w : World) (v : Value) (h : StV w v) (r : Int) (k : Int) : Calls Tryz.prog 33 #[v, .int .u32 r, .int .u64 k] w fun e w' => e = .returned (.tuple #[.slice none 0 0, .int .i64 1]) ∧ Below w.heap.size w w' := by
 obtain ⟨a0, ha0⟩ : ∃ W, w.alloc (.cells #[.int .u64 k] 23) = W := ⟨_, rfl⟩
 have ba0 : Below w.heap.size w a0 := by rw [← ha0]; exact balloc (Below.refl _ _) _
 have xa0 : a0.heap[w.heap.size]? = some (.cells #[.int .u64 k] 23 (0, 0)) := by rw [← ha0]; exact heap_alloc_new _ _
 obtain ⟨a1, ha1⟩ : ∃ W, a0.alloc (.cells #[.slice none 0 0] 72) = W := ⟨_, rfl⟩
 have ba1 : Below a0.heap.size a0 a1 := by rw [← ha1]; exact balloc (Below.refl _ _) _
 have xa1 : a1.heap[a0.heap.size]? = some (.cells #[.slice none 0 0] 72 (0, 0)) := by rw [← ha1]; exact heap_alloc_new _ _
 have HZ : Hid (w.heap.size ≤ a0.heap.size) := Lib.hid ba0.size
 have HB0 : Hid (Below w.heap.size w a1) := Lib.hid (bthn ba0 ba1)
 have HX0 := Lib.hid xa1
 have C := tmay_no a1 v (h.below (HB0.out)) r
 obtain ⟨a, rfl⟩ := h.ptr
 clear h ba0 xa0 ba1 xa1
 go_enter Tryz.func33, Tryz.ntmps33
 go_wp2_with fail
 (try rw [ha0])
 (try rw [ha1])
 clear ha0 ha1
 refine C.mono ?_
 rintro e w1 ⟨rfl, hb1⟩
 have HB1 := Lib.hid (bthn HB0.out hb1)
 have HX1 := Lib.hid ((hb1.block _ (Array.getElem?_eq_some_iff.1 HX0.out).1).trans HX0.out)
 have t0 := cellOf HX1.out 0 (v := .slice none 0 0) rfl
 have f0 := frozenOf HX1.out 0
 clear C hb1
 go_wp2_with fail
 obtain ⟨w2, hw2⟩ : ∃ W, w1.setCell ⟨a0.heap.size, 0, none⟩ (.slice none 0 0) = W := ⟨_, rfl⟩
 rw [hw2]
 have hx2 : w2.heap[a0.heap.size]? = some (.cells #[.slice none 0 0] 72 (0, 0)) := by rw [← hw2]; exact setOf HX1.out 0 _
 have hb2 : Below w.heap.size w w2 := by rw [← hw2]; exact HB1.out.setCell (p := ⟨a0.heap.size, 0, none⟩) HZ.out _
 refine bodyPost_ret (v := .tuple #[.slice none 0 0, .int .i64 1]) ?_ rfl ⟨rfl, hb2⟩
 rw [results_cell_tmp rfl]
 have r1 := lv_one agg72 (cellOf hx2 0 (v := .slice none 0 0) rfl)
 simp only [asAddr, Array.getD_eq_getD_getElem?, List.getElem?_toArray, List.getElem?_cons_succ, List.getElem?_cons_zero, Option.getD_some, Sem.run_pure, Result.andThen_ok, r1]
set_option maxRecDepth 100000 in
set_option maxHeartbeats 3200000 in
theorem tcheck_no (w : World) (v : Value) (h : StV w v) (r : Int) (k : Int) : Calls Tryz.prog 36 #[v, .int .u32 r, .int .i64 k] w fun e w' => e = .returned (.int .i64 1) ∧ Below w.heap.size w w' := by
 obtain ⟨a0, ha0⟩ : ∃ W, w.alloc (.cells #[.int .u32 r] 24) = W := ⟨_, rfl⟩
 have ba0 : Below w.heap.size w a0 := by rw [← ha0]; exact balloc (Below.refl _ _) _
 have xa0 : a0.heap[w.heap.size]? = some (.cells #[.int .u32 r] 24 (0, 0)) := by rw [← ha0]; exact heap_alloc_new _ _
 obtain ⟨a1, ha1⟩ : ∃ W, a0.alloc (.cells #[.int .i64 k] 37) = W := ⟨_, rfl⟩
 have ba1 : Below a0.heap.size a0 a1 := by rw [← ha1]; exact balloc (Below.refl _ _) _
 have xa1 : a1.heap[a0.heap.size]? = some (.cells #[.int .i64 k] 37 (0, 0)) := by rw [← ha1]; exact heap_alloc_new _ _
 have HZ : Hid (w.heap.size ≤ a0.heap.size) := Lib.hid ba0.size
 have HB0 : Hid (Below w.heap.size w a1) := Lib.hid (bthn ba0 ba1)
 have HXR := Lib.hid ((ba1.block _ (Array.getElem?_eq_some_iff.1 xa0).1).trans xa0)
 have c0 := cellOf HXR.out 0 rfl
 have C := tmay_no a1 v (h.below (HB0.out)) r
 obtain ⟨a, rfl⟩ := h.ptr
 clear h ba0 xa0 ba1 xa1
 go_enter Tryz.func36, Tryz.ntmps36
 go_wp2_with fail
 (try rw [ha0])
 (try rw [ha1])
 clear ha0 ha1
 refine C.mono ?_
 rintro e w1 ⟨rfl, hb1⟩
 have HB1 := Lib.hid (bthn HB0.out hb1)
 have d0 := cellOf ((hb1.block _ (Array.getElem?_eq_some_iff.1 HXR.out).1).trans HXR.out) 0 rfl
 clear c0
 clear C hb1
 go_wp2_with fail
 go_ret
 exact ⟨rfl, HB1.out⟩
set_option maxRecDepth 100000 in
set_option maxHeartbeats 3200000 in
theorem tdelete_no (w : World) (v : Value) (h : StV w v) (r : Int) (k : Int) : Calls Tryz.prog 32 #[v, .int .u32 r, .int .u64 k] w fun e w' => e = .returned (.tuple #[.int .u32 0, .int .u64 0, .bool false, .int .i64 1]) ∧ Below w.heap.size w w' := by
 have HB0 : Hid (Below w.heap.size w w) := Lib.hid (Below.refl _ _)
 have C := tget_no w v h r k
 obtain ⟨a, rfl⟩ := h.ptr
 clear h 
 go_enter Tryz.func32, Tryz.ntmps32
 go_wp2_with fail
 refine C.mono ?_
 rintro e w1 ⟨rfl, hb1⟩
 have HB1 := Lib.hid (bthn HB0.out hb1)
 clear C hb1
 go_wp2_with fail
 refine bodyPost_ret (results_t4 rfl _ _ _) rfl ?_
 exact ⟨rfl, HB1.out⟩
set_option maxRecDepth 100000 in
set_option maxHeartbeats 3200000 in
theorem tget_0 {w : World} {S B pm pd mf md : Nat} {s : Su} {A D : M} {Fm Fd : List Nat} (h : StB w S B pm pd mf md s A D Fm Fd false) (k : Int) : Calls Tryz.prog 30 #[.pointer (some ⟨S, 0, none⟩), .int .u32 0, .int .u64 k] w fun e w' => e = .returned (.tuple #[.int .u64 0, .bool false, .int .i64 0]) ∧ Below w.heap.size w w' := by
 have HB0 : Hid (Below w.heap.size w w) := Lib.hid (Below.refl _ _)
 have C := tmay_in (h.below (HB0.out)) 0 h.mok.pos
 clear h 
 go_enter Tryz.func30, Tryz.ntmps30
 go_wp2_with fail
 refine C.mono ?_
 rintro e w1 ⟨rfl, hb1⟩
 have HB1 := Lib.hid (bthn HB0.out hb1)
 clear C hb1
 go_wp2_with fail
 go_loopw [10, 11] (fun u v wr => u = .int .u32 0 ∧ wr = w1) (fun _ _ _ => 0)
 case atStart => exact ⟨rfl, rfl⟩
 case round =>
  obtain ⟨rfl, rfl⟩ := hrel
  go_wp2_with fail
  go_ret3
  exact ⟨rfl, HB1.out⟩
set_option maxRecDepth 100000 in
set_option maxHeartbeats 3200000 in
theorem tall_0 {w : World} {S B pm pd mf md : Nat} {s : Su} {A D : M} {Fm Fd : List Nat} (h : StB w S B pm pd mf md s A D Fm Fd false) (k : Int) : Calls Tryz.prog 33 #[.pointer (some ⟨S, 0, none⟩), .int .u32 0, .int .u64 k] w fun e w' => e = .returned (.tuple #[.slice none 0 0, .int .i64 0]) ∧ Below w.heap.size w w' := by
 obtain ⟨a0, ha0⟩ : ∃ W, w.alloc (.cells #[.int .u64 k] 23) = W := ⟨_, rfl⟩
 have ba0 : Below w.heap.size w a0 := by rw [← ha0]; exact balloc (Below.refl _ _) _
 have xa0 : a0.heap[w.heap.size]? = some (.cells #[.int .u64 k] 23 (0, 0)) := by rw [← ha0]; exact heap_alloc_new _ _
 obtain ⟨a1, ha1⟩ : ∃ W, a0.alloc (.cells #[.slice none 0 0] 72) = W := ⟨_, rfl⟩
 have ba1 : Below a0.heap.size a0 a1 := by rw [← ha1]; exact balloc (Below.refl _ _) _
 have xa1 : a1.heap[a0.heap.size]? = some (.cells #[.slice none 0 0] 72 (0, 0)) := by rw [← ha1]; exact heap_alloc_new _ _
 have HZ : Hid (w.heap.size ≤ a0.heap.size) := Lib.hid ba0.size
 have HB0 : Hid (Below w.heap.size w a1) := Lib.hid (bthn ba0 ba1)
 have HX0 := Lib.hid xa1
 have C := tmay_in (h.below (HB0.out)) 0 h.mok.pos
 clear h ba0 xa0 ba1 xa1
 go_enter Tryz.func33, Tryz.ntmps33
 go_wp2_with fail
 (try rw [ha0])
 (try rw [ha1])
 clear ha0 ha1
 refine C.mono ?_
 rintro e w1 ⟨rfl, hb1⟩
 have HB1 := Lib.hid (bthn HB0.out hb1)
 have HX1 := Lib.hid ((hb1.block _ (Array.getElem?_eq_some_iff.1 HX0.out).1).trans HX0.out)
 have t0 := cellOf HX1.out 0 (v := .slice none 0 0) rfl
 have f0 := frozenOf HX1.out 0
 clear C hb1
 go_wp2_with fail
 obtain ⟨w2, hw2⟩ : ∃ W, w1.setCell ⟨a0.heap.size, 0, none⟩ (.slice none 0 0) = W := ⟨_, rfl⟩
 rw [hw2]
 have hx2 : w2.heap[a0.heap.size]? = some (.cells #[.slice none 0 0] 72 (0, 0)) := by rw [← hw2]; exact setOf HX1.out 0 _
 have hb2 : Below w.heap.size w w2 := by rw [← hw2]; exact HB1.out.setCell (p := ⟨a0.heap.size, 0, none⟩) HZ.out _
 refine bodyPost_ret (v := .tuple #[.slice none 0 0, .int .i64 0]) ?_ rfl ⟨rfl, hb2⟩
 rw [results_cell_tmp rfl]
 have r1 := lv_one agg72 (cellOf hx2 0 (v := .slice none 0 0) rfl)
 simp only [asAddr, Array.getD_eq_getD_getElem?, List.getElem?_toArray, List.getElem?_cons_succ, List.getElem?_cons_zero, Option.getD_some, Sem.run_pure, Result.andThen_ok, r1]
set_option maxRecDepth 100000 in
set_option maxHeartbeats 3200000 in
theorem tcheck_0 {w : World} {S B pm pd mf md : Nat} {s : Su} {A D : M} {Fm Fd : List Nat} (h : StB w S B pm pd mf md s A D Fm Fd false) (k : Int) : Calls Tryz.prog 36 #[.pointer (some ⟨S, 0, none⟩), .int .u32 0, .int .i64 k] w fun e w' => e = .returned (.int .i64 0) ∧ Below w.heap.size w w' := by
 obtain ⟨a0, ha0⟩ : ∃ W, w.alloc (.cells #[.int .u32 0] 24) = W := ⟨_, rfl⟩
 have ba0 : Below w.heap.size w a0 := by rw [← ha0]; exact balloc (Below.refl _ _) _
 have xa0 : a0.heap[w.heap.size]? = some (.cells #[.int .u32 0] 24 (0, 0)) := by rw [← ha0]; exact heap_alloc_new _ _
 obtain ⟨a1, ha1⟩ : ∃ W, a0.alloc (.cells #[.int .i64 k] 37) = W := ⟨_, rfl⟩
 have ba1 : Below a0.heap.size a0 a1 := by rw [← ha1]; exact balloc (Below.refl _ _) _
 have xa1 : a1.heap[a0.heap.size]? = some (.cells #[.int .i64 k] 37 (0, 0)) := by rw [← ha1]; exact heap_alloc_new _ _
 have HZ : Hid (w.heap.size ≤ a0.heap.size) := Lib.hid ba0.size
 have HB0 : Hid (Below w.heap.size w a1) := Lib.hid (bthn ba0 ba1)
 have HXR := Lib.hid ((ba1.block _ (Array.getElem?_eq_some_iff.1 xa0).1).trans xa0)
 have c0 := cellOf HXR.out 0 rfl
 have C := tmay_in (h.below (HB0.out)) 0 h.mok.pos
 clear h ba0 xa0 ba1 xa1
 go_enter Tryz.func36, Tryz.ntmps36
 go_wp2_with fail
 (try rw [ha0])
 (try rw [ha1])
 clear ha0 ha1
 refine C.mono ?_
 rintro e w1 ⟨rfl, hb1⟩
 have HB1 := Lib.hid (bthn HB0.out hb1)
 have d0 := cellOf ((hb1.block _ (Array.getElem?_eq_some_iff.1 HXR.out).1).trans HXR.out) 0 rfl
 clear c0
 clear C hb1
 go_wp2_with fail
 go_ret
 exact ⟨rfl, HB1.out⟩
set_option maxRecDepth 100000 in
set_option maxHeartbeats 3200000 in
theorem tdelete_0 {w : World} {S B pm pd mf md : Nat} {s : Su} {A D : M} {Fm Fd : List Nat} (h : StB w S B pm pd mf md s A D Fm Fd false) (k : Int) : Calls Tryz.prog 32 #[.pointer (some ⟨S, 0, none⟩), .int .u32 0, .int .u64 k] w fun e w' => e = .returned (.tuple #[.int .u32 0, .int .u64 0, .bool false, .int .i64 0]) ∧ Below w.heap.size w w' := by
 have HB0 : Hid (Below w.heap.size w w) := Lib.hid (Below.refl _ _)
 have C := tget_0 h k
 clear h 
 go_enter Tryz.func32, Tryz.ntmps32
 go_wp2_with fail
 refine C.mono ?_
 rintro e w1 ⟨rfl, hb1⟩
 have HB1 := Lib.hid (bthn HB0.out hb1)
 clear C hb1
 go_wp2_with fail
 refine bodyPost_ret (results_t4 rfl _ _ _) rfl ?_
 exact ⟨rfl, HB1.out⟩
set_option maxRecDepth 100000 in
set_option maxHeartbeats 6400000 in
theorem tmay_big {w : World} {S B pm pd mf md : Nat} {s : Su} {A D : M} {Fm Fd : List Nat} (h : StB w S B pm pd mf md s A D Fm Fd false) (n : Nat) (hn : A.now.length ≤ n) (hn32 : n < 4294967296) : Calls Tryz.prog 85 #[.pointer (some ⟨S, 0, none⟩), .int .u32 (n : Int)] w fun e w' => e = .returned (.int .i64 2) ∧ Below w.heap.size w w' := by
 have CS := ssuper_at h
 have CB : Hid (∀ X, Below w.heap.size w X → Calls Tryz.prog 26 #[.pointer (some ⟨S, 0, none⟩)] X fun e w' => e = .returned (.bool false) ∧ X = w') := Lib.hid (fun X hX => sbroken_at (h.below hX))
 have hm9 := h.mok.max
 have hps := h.mok.pos
 have hmt := h.ml
 rw [suL_v] at CS
 obtain ⟨SL, hSL⟩ : ∃ L, suL s = L := ⟨_, rfl⟩
 have HMT : Hid (SL[1]? = some (.int .i64 s.mt)) := Lib.hid (by rw [← hSL]; rfl)
 have HS19 : Hid (SL.length = 19) := Lib.hid (by rw [← hSL]; rfl)
 have HS1 : Hid (SL.toArray.all (·.oneCell') = true) := Lib.hid (by rw [← hSL]; exact Array.all_eq_true_iff_forall_mem.2 (fun v hv => suL_one s v (by simpa using hv)))
 have hss : SL.toArray.size = 19 := by rw [List.size_toArray, HS19.out]
 rw [hSL] at CS
 obtain ⟨mt, hm⟩ : ∃ x, s.mt = x := ⟨_, rfl⟩
 rw [hm] at HMT hmt
 have hn4 : (n : Int) < 4294967296 := by omega
 have hz : (mt == 0) = false := by simp; omega
 have hn1 : decide (mt ≤ (n : Int)) = true := by simp; omega
 clear h hSL hm hmt
 go_enter Tryz.func85, Tryz.ntmps85
 go_wp2_with fail
 refine CS.mono ?_
 rintro e w2 ⟨rfl, hb2⟩
 have HB2 := Lib.hid hb2
 clear CS hb2
 dsimp only
 repeat (first
  | (refine wpList_store_mid rfl 29 _ _ rfl w2.heap.size 0 SL.toArray rfl rfl (thereOf (heap_alloc_new w2 _) (by rw [hss]; simp)) (by rw [hss]; exact infoSup) HS1.out ?_; refine Hid.out ?_)
  | go_step)
 refine Lib.hid ?_
 obtain ⟨w4, hw4⟩ : ∃ W, (w2.alloc (.cells #[.int .u64 0, .int .i64 0, .int .i64 0, .int .u32 0, .int .u32 0, .int .u32 0, .int .u32 0, .int .u32 0, .int .u32 0, .int .u32 0, .int .u32 0, .int .u32 0, .int .i64 0, .int .u64 0, .int .u64 0, .int .u64 0, .int .u64 0, .int .u64 0, .bool false] 29)).setCells w2.heap.size 0 SL = W := ⟨_, rfl⟩
 have HB4 : Hid (Below w.heap.size w w4) := Lib.hid (by rw [← hw4]; exact bthn HB2.out (belowSets (Nat.le_refl _) _ _ _ (balloc (Below.refl _ _) _)))
 obtain ⟨g4, hg4⟩ : ∃ g, w2.heap.size = g := ⟨_, rfl⟩
 have HR4 : Hid (w4.rangeAt g4 0 SL) := Lib.hid (by rw [← hw4, ← hg4]; exact World.rangeAt_setCells_same _ _ _ _ (thereOf (heap_alloc_new w2 _) (by rw [HS19.out]; simp)))
 have hc1 : w4.cell? ⟨g4, 1, none⟩ = some (.int .i64 mt) := HR4.out 1 _ HMT.out
 have CB4 := CB.out w4 HB4.out
 simp only [List.toList_toArray]
 rw [hw4, hg4]
 clear hw4 hg4 CB
 go_wp2_with fail
 refine CB4.mono ?_
 rintro e w5 ⟨rfl, rfl⟩
 clear CB4
 go_wp2_with fail
 go_ret
 exact ⟨rfl, HB4.out⟩
set_option maxRecDepth 100000 in
set_option maxHeartbeats 3200000 in
theorem tget_big {w : World} {S B pm pd mf md : Nat} {s : Su} {A D : M} {Fm Fd : List Nat} (h : StB w S B pm pd mf md s A D Fm Fd false) (n : Nat) (hn : A.now.length ≤ n) (hn32 : n < 4294967296) (k : Int) : Calls Tryz.prog 30 #[.pointer (some ⟨S, 0, none⟩), .int .u32 (n : Int), .int .u64 k] w fun e w' => e = .returned (.tuple #[.int .u64 0, .bool false, .int .i64 2]) ∧ Below w.heap.size w w' := by
 have HB0 : Hid (Below w.heap.size w w) := Lib.hid (Below.refl _ _)
 have C := tmay_big (h.below (HB0.out)) n hn hn32
 clear h 
 go_enter Tryz.func30, Tryz.ntmps30
 go_wp2_with fail
 refine C.mono ?_
 rintro e w1 ⟨rfl, hb1⟩
 have HB1 := Lib.hid (bthn HB0.out hb1)
 clear C hb1
 go_wp2_with fail
 go_ret3
 exact ⟨rfl, HB1.out⟩
set_option maxRecDepth 100000 in
set_option maxHeartbeats 3200000 in
theorem tput_big {w : World} {S B pm pd mf md : Nat} {s : Su} {A D : M} {Fm Fd : List Nat} (h : StB w S B pm pd mf md s A D Fm Fd false) (n : Nat) (hn : A.now.length ≤ n) (hn32 : n < 4294967296) (kd k u : Int) : Calls Tryz.prog 31 #[.pointer (some ⟨S, 0, none⟩), .int .u32 (n : Int), .int .i64 kd, .int .u64 k, .int .u64 u] w fun e w' => e = .returned (.tuple #[.int .u32 0, .int .u64 0, .bool false, .int .i64 2]) ∧ Below w.heap.size w w' := by
 have HB0 : Hid (Below w.heap.size w w) := Lib.hid (Below.refl _ _)
 have C := tmay_big (h.below (HB0.out)) n hn hn32
 clear h 
 go_enter Tryz.func31, Tryz.ntmps31
 go_wp2_with fail
 refine C.mono ?_
 rintro e w1 ⟨rfl, hb1⟩
 have HB1 := Lib.hid (bthn HB0.out hb1)
 clear C hb1
 go_wp2_with fail
 refine bodyPost_ret (results_t4 rfl _ _ _) rfl ?_
 exact ⟨rfl, HB1.out⟩
set_option maxRecDepth 100000 in
set_option maxHeartbeats 3200000 in
theorem tnodes_big {w : World} {S B pm pd mf md : Nat} {s : Su} {A D : M} {Fm Fd : List Nat} (h : StB w S B pm pd mf md s A D Fm Fd false) (n : Nat) (hn : A.now.length ≤ n) (hn32 : n < 4294967296)  : Calls Tryz.prog 34 #[.pointer (some ⟨S, 0, none⟩), .int .u32 (n : Int)] w fun e w' => e = .returned (.tuple #[.slice none 0 0, .int .i64 2]) ∧ Below w.heap.size w w' := by
 obtain ⟨a0, ha0⟩ : ∃ W, w.alloc (.cells #[.slice none 0 0] 75) = W := ⟨_, rfl⟩
 have ba0 : Below w.heap.size w a0 := by rw [← ha0]; exact balloc (Below.refl _ _) _
 have xa0 : a0.heap[w.heap.size]? = some (.cells #[.slice none 0 0] 75 (0, 0)) := by rw [← ha0]; exact heap_alloc_new _ _
 have HZ : Hid (w.heap.size ≤ w.heap.size) := Lib.hid (Nat.le_refl _)
 have HB0 : Hid (Below w.heap.size w a0) := Lib.hid (ba0)
 have HX0 := Lib.hid xa0
 have C := tmay_big (h.below (HB0.out)) n hn hn32
 clear h ba0 xa0
 go_enter Tryz.func34, Tryz.ntmps34
 go_wp2_with fail
 (try rw [ha0])
 clear ha0
 refine C.mono ?_
 rintro e w1 ⟨rfl, hb1⟩
 have HB1 := Lib.hid (bthn HB0.out hb1)
 have HX1 := Lib.hid ((hb1.block _ (Array.getElem?_eq_some_iff.1 HX0.out).1).trans HX0.out)
 have t0 := cellOf HX1.out 0 (v := .slice none 0 0) rfl
 have f0 := frozenOf HX1.out 0
 clear C hb1
 go_wp2_with fail
 obtain ⟨w2, hw2⟩ : ∃ W, w1.setCell ⟨w.heap.size, 0, none⟩ (.slice none 0 0) = W := ⟨_, rfl⟩
 rw [hw2]
 have hx2 : w2.heap[w.heap.size]? = some (.cells #[.slice none 0 0] 75 (0, 0)) := by rw [← hw2]; exact setOf HX1.out 0 _
 have hb2 : Below w.heap.size w w2 := by rw [← hw2]; exact HB1.out.setCell (p := ⟨w.heap.size, 0, none⟩) HZ.out _
 refine bodyPost_ret (v := .tuple #[.slice none 0 0, .int .i64 2]) ?_ rfl ⟨rfl, hb2⟩
 rw [results_cell_tmp rfl]
 have r1 := lv_one agg75 (cellOf hx2 0 (v := .slice none 0 0) rfl)
 simp only [asAddr, Array.getD_eq_getD_getElem?, List.getElem?_toArray, List.getElem?_cons_succ, List.getElem?_cons_zero, Option.getD_some, Sem.run_pure, Result.andThen_ok, r1]
set_option maxRecDepth 100000 in
set_option maxHeartbeats 3200000 in
theorem tall_big {w : World} {S B pm pd mf md : Nat} {s : Su} {A D : M} {Fm Fd : List Nat} (h : StB w S B pm pd mf md s A D Fm Fd false) (n : Nat) (hn : A.now.length ≤ n) (hn32 : n < 4294967296) (k : Int) : Calls Tryz.prog 33 #[.pointer (some ⟨S, 0, none⟩), .int .u32 (n : Int), .int .u64 k] w fun e w' => e = .returned (.tuple #[.slice none 0 0, .int .i64 2]) ∧ Below w.heap.size w w' := by
 obtain ⟨a0, ha0⟩ : ∃ W, w.alloc (.cells #[.int .u64 k] 23) = W := ⟨_, rfl⟩
 have ba0 : Below w.heap.size w a0 := by rw [← ha0]; exact balloc (Below.refl _ _) _
 have xa0 : a0.heap[w.heap.size]? = some (.cells #[.int .u64 k] 23 (0, 0)) := by rw [← ha0]; exact heap_alloc_new _ _
 obtain ⟨a1, ha1⟩ : ∃ W, a0.alloc (.cells #[.slice none 0 0] 72) = W := ⟨_, rfl⟩
 have ba1 : Below a0.heap.size a0 a1 := by rw [← ha1]; exact balloc (Below.refl _ _) _
 have xa1 : a1.heap[a0.heap.size]? = some (.cells #[.slice none 0 0] 72 (0, 0)) := by rw [← ha1]; exact heap_alloc_new _ _
 have HZ : Hid (w.heap.size ≤ a0.heap.size) := Lib.hid ba0.size
 have HB0 : Hid (Below w.heap.size w a1) := Lib.hid (bthn ba0 ba1)
 have HX0 := Lib.hid xa1
 have C := tmay_big (h.below (HB0.out)) n hn hn32
 clear h ba0 xa0 ba1 xa1
 go_enter Tryz.func33, Tryz.ntmps33
 go_wp2_with fail
 (try rw [ha0])
 (try rw [ha1])
 clear ha0 ha1
 refine C.mono ?_
 rintro e w1 ⟨rfl, hb1⟩
 have HB1 := Lib.hid (bthn HB0.out hb1)
 have HX1 := Lib.hid ((hb1.block _ (Array.getElem?_eq_some_iff.1 HX0.out).1).trans HX0.out)
 have t0 := cellOf HX1.out 0 (v := .slice none 0 0) rfl
 have f0 := frozenOf HX1.out 0
 clear C hb1
 go_wp2_with fail
 obtain ⟨w2, hw2⟩ : ∃ W, w1.setCell ⟨a0.heap.size, 0, none⟩ (.slice none 0 0) = W := ⟨_, rfl⟩
 rw [hw2]
 have hx2 : w2.heap[a0.heap.size]? = some (.cells #[.slice none 0 0] 72 (0, 0)) := by rw [← hw2]; exact setOf HX1.out 0 _
 have hb2 : Below w.heap.size w w2 := by rw [← hw2]; exact HB1.out.setCell (p := ⟨a0.heap.size, 0, none⟩) HZ.out _
 refine bodyPost_ret (v := .tuple #[.slice none 0 0, .int .i64 2]) ?_ rfl ⟨rfl, hb2⟩
 rw [results_cell_tmp rfl]
 have r1 := lv_one agg72 (cellOf hx2 0 (v := .slice none 0 0) rfl)
 simp only [asAddr, Array.getD_eq_getD_getElem?, List.getElem?_toArray, List.getElem?_cons_succ, List.getElem?_cons_zero, Option.getD_some, Sem.run_pure, Result.andThen_ok, r1]
set_option maxRecDepth 100000 in
set_option maxHeartbeats 3200000 in
theorem tcheck_big {w : World} {S B pm pd mf md : Nat} {s : Su} {A D : M} {Fm Fd : List Nat} (h : StB w S B pm pd mf md s A D Fm Fd false) (n : Nat) (hn : A.now.length ≤ n) (hn32 : n < 4294967296) (k : Int) : Calls Tryz.prog 36 #[.pointer (some ⟨S, 0, none⟩), .int .u32 (n : Int), .int .i64 k] w fun e w' => e = .returned (.int .i64 2) ∧ Below w.heap.size w w' := by
 obtain ⟨a0, ha0⟩ : ∃ W, w.alloc (.cells #[.int .u32 (n : Int)] 24) = W := ⟨_, rfl⟩
 have ba0 : Below w.heap.size w a0 := by rw [← ha0]; exact balloc (Below.refl _ _) _
 have xa0 : a0.heap[w.heap.size]? = some (.cells #[.int .u32 (n : Int)] 24 (0, 0)) := by rw [← ha0]; exact heap_alloc_new _ _
 obtain ⟨a1, ha1⟩ : ∃ W, a0.alloc (.cells #[.int .i64 k] 37) = W := ⟨_, rfl⟩
 have ba1 : Below a0.heap.size a0 a1 := by rw [← ha1]; exact balloc (Below.refl _ _) _
 have xa1 : a1.heap[a0.heap.size]? = some (.cells #[.int .i64 k] 37 (0, 0)) := by rw [← ha1]; exact heap_alloc_new _ _
 have HZ : Hid (w.heap.size ≤ a0.heap.size) := Lib.hid ba0.size
 have HB0 : Hid (Below w.heap.size w a1) := Lib.hid (bthn ba0 ba1)
 have HXR := Lib.hid ((ba1.block _ (Array.getElem?_eq_some_iff.1 xa0).1).trans xa0)
 have c0 := cellOf HXR.out 0 rfl
 have C := tmay_big (h.below (HB0.out)) n hn hn32
 clear h ba0 xa0 ba1 xa1
 go_enter Tryz.func36, Tryz.ntmps36
 go_wp2_with fail
 (try rw [ha0])
 (try rw [ha1])
 clear ha0 ha1
 refine C.mono ?_
 rintro e w1 ⟨rfl, hb1⟩
 have HB1 := Lib.hid (bthn HB0.out hb1)
 have d0 := cellOf ((hb1.block _ (Array.getElem?_eq_some_iff.1 HXR.out).1).trans HXR.out) 0 rfl
 clear c0
 clear C hb1
 go_wp2_with fail
 go_ret
 exact ⟨rfl, HB1.out⟩
set_option maxRecDepth 100000 in
set_option maxHeartbeats 3200000 in
theorem tdelete_big {w : World} {S B pm pd mf md : Nat} {s : Su} {A D : M} {Fm Fd : List Nat} (h : StB w S B pm pd mf md s A D Fm Fd false) (n : Nat) (hn : A.now.length ≤ n) (hn32 : n < 4294967296) (k : Int) : Calls Tryz.prog 32 #[.pointer (some ⟨S, 0, none⟩), .int .u32 (n : Int), .int .u64 k] w fun e w' => e = .returned (.tuple #[.int .u32 0, .int .u64 0, .bool false, .int .i64 2]) ∧ Below w.heap.size w w' := by
 have HB0 : Hid (Below w.heap.size w w) := Lib.hid (Below.refl _ _)
 have C := tget_big h n hn hn32 k
 clear h 
 go_enter Tryz.func32, Tryz.ntmps32
 go_wp2_with fail
 refine C.mono ?_
 rintro e w1 ⟨rfl, hb1⟩
 have HB1 := Lib.hid (bthn HB0.out hb1)
 clear C hb1
 go_wp2_with fail
 refine bodyPost_ret (results_t4 rfl _ _ _) rfl ?_
 exact ⟨rfl, HB1.out⟩
end Go.Proofs.YtcdobdjemlaaaaaGreat
/- TreeNil, walked. -/
namespace Go.Proofs.YtcdobdjemlaaaaaGreat
open Go.RowKit Go.Maps Wire
set_option linter.unusedVariables false
set_option linter.unusedSimpArgs false
set_option maxRecDepth 100000 in
set_option maxHeartbeats 12800000 in
theorem treeNil_at (w : World) : Calls Tryz.prog 4 #[] w fun e w' => e = .returned (.bool true) ∧ Below w.heap.size w w' := by
 have HB : Hid (Below w.heap.size w w) := Lib.hid (Below.refl _ _)
 have HV : Hid (∀ X, StV X (.pointer none)) := Lib.hid (fun X => .inl rfl)
 go_enter Tryz.func4, Tryz.ntmps4
 have C := tget_no w _ (HV.out _) 1 1
 go_wp2_with fail
 refine C.mono ?_
 rintro e x1 ⟨rfl, hb⟩
 have HB := Lib.hid (bthn HB.out hb)
 clear C hb
 dsimp only
 have C := tput_no x1 _ (HV.out _) 0 2 1 1
 go_wp2_with fail
 refine C.mono ?_
 rintro e x2 ⟨rfl, hb⟩
 have HB := Lib.hid (bthn HB.out hb)
 clear C hb
 dsimp only
 have C := tdelete_no x2 _ (HV.out _) 0 1
 go_wp2_with fail
 refine C.mono ?_
 rintro e x3 ⟨rfl, hb⟩
 have HB := Lib.hid (bthn HB.out hb)
 clear C hb
 dsimp only
 have C := tall_no x3 _ (HV.out _) 0 0
 go_wp2_with fail
 refine C.mono ?_
 rintro e x4 ⟨rfl, hb⟩
 have HB := Lib.hid (bthn HB.out hb)
 clear C hb
 dsimp only
 have C := tnodes_no x4 _ (HV.out _) 0
 go_wp2_with fail
 refine C.mono ?_
 rintro e x5 ⟨rfl, hb⟩
 have HB := Lib.hid (bthn HB.out hb)
 clear C hb
 dsimp only
 have C := made09_at x5
 unfold Made9 pt at C
 obtain ⟨A9, hA9⟩ : ∃ x, ar9 = x := ⟨_, rfl⟩
 obtain ⟨s9, hs9⟩ : ∃ x, su9 = x := ⟨_, rfl⟩
 rw [hA9, hs9] at C
 clear hA9 hs9
 go_wp2_with fail
 refine C.mono ?_
 rintro e x6 ⟨S, B, pm, pd, mf, md, Fm, Fd, rfl, hst, hb, hge⟩
 have HS := Lib.hid hst.st
 have HB := Lib.hid (bthn HB.out hb)
 clear C hst hb hge
 have C := tget_0 HS.out 1
 go_wp2_with fail
 refine C.mono ?_
 rintro e x7 ⟨rfl, hb⟩
 have HB := Lib.hid (bthn HB.out hb)
 have HS := Lib.hid (HS.out.below hb)
 clear C hb
 dsimp only
 have C := tdelete_0 HS.out 1
 go_wp2_with fail
 refine C.mono ?_
 rintro e x8 ⟨rfl, hb⟩
 have HB := Lib.hid (bthn HB.out hb)
 have HS := Lib.hid (HS.out.below hb)
 clear C hb
 dsimp only
 have C := tall_0 HS.out 0
 go_wp2_with fail
 refine C.mono ?_
 rintro e x9 ⟨rfl, hb⟩
 have HB := Lib.hid (bthn HB.out hb)
 have HS := Lib.hid (HS.out.below hb)
 clear C hb
 dsimp only
 have C := tcheck_no x9 _ (HV.out _) 0 2
 go_wp2_with fail
 refine C.mono ?_
 rintro e x10 ⟨rfl, hb⟩
 have HB := Lib.hid (bthn HB.out hb)
 have HS := Lib.hid (HS.out.below hb)
 clear C hb
 dsimp only
 have C := tcheck_0 HS.out 2
 go_wp2_with fail
 refine C.mono ?_
 rintro e x11 ⟨rfl, hb⟩
 have HB := Lib.hid (bthn HB.out hb)
 clear C hb
 dsimp only
 have C := known09_at x11
 go_wp2_with fail
 refine C.mono ?_
 rintro e x12 ⟨rfl, hb⟩
 have HB := Lib.hid (bthn HB.out hb)
 clear C hb
 dsimp only
 go_wp2_with fail
 go_ret
 exact ⟨rfl, HB.out⟩
end Go.Proofs.YtcdobdjemlaaaaaGreat
