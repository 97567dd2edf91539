/- store: what is answered of a store that is not there, or is zero, walked. -/
import Derived.Test.YtcdobdjemlaaaaaGreatMd0
namespace Go.Proofs.YtcdobdjemlaaaaaGreat
open Go.RowKit Wire
set_option linter.unusedVariables false
set_option linter.unusedSimpArgs false

/-- A zero store's cells. -/
def stZ : Array Value := #[.pointer none, .int .u64 0, .int .i64 0, .int .i64 0, .int .u32 0, .int .u32 0, .int .u32 0, .int .u32 0, .int .u32 0, .int .u32 0, .int .u32 0, .int .u32 0, .int .u32 0, .int .i64 0, .int .u64 0, .int .u64 0, .int .u64 0, .int .u64 0, .int .u64 0, .bool false, .pointer none, .pointer none, .map none, .map none, .bool false]
/-- No store. -/
def StV (w : World) (v : Value) : Prop := v = .pointer none ∨ ∃ z, v = .pointer (some ⟨z, 0, none⟩) ∧ w.heap[z]? = some (.cells stZ 34 (0, 0))
theorem StV.below {w w' : World} {v : Value} (h : StV w v) (hb : Below w.heap.size w w') : StV w' v := by
  rcases h with rfl | ⟨z, rfl, h⟩
  · exact .inl rfl
  · exact .inr ⟨z, rfl, (hb.block _ (Array.getElem?_eq_some_iff.1 h).1).trans h⟩
theorem StV.ptr {w : World} {v : Value} (h : StV w v) : ∃ a, v = .pointer a := by
  rcases h with rfl | ⟨z, rfl, _⟩
  · exact ⟨_, rfl⟩
  · exact ⟨_, rfl⟩
theorem ret_eq {fn : Func} {p : Tmp} {ty : TypeId} (h : fn.results = #[.cell p ty]) (tmps : Array Value) (P : Program) (w : World) : (results fn tmps).run P w = ((asAddr (tmps.getD p undef)).run P w).andThen fun a w₁ => (loadVar ty a).run P w₁ := by
  simp only [results, h]
  simp [Sem.run_bind, Result.andThen]
theorem ret_eq3 {fn : Func} {p q r : Tmp} {t1 t2 t3 : TypeId} (h : fn.results = #[.cell p t1, .cell q t2, .cell r t3]) (tmps : Array Value) (P : Program) (w : World) : (results fn tmps).run P w = ((asAddr (tmps.getD p undef)).run P w).andThen fun a w₁ => ((loadVar t1 a).run P w₁).andThen fun v w₂ => ((asAddr (tmps.getD q undef)).run P w₂).andThen fun a w₁ => ((loadVar t2 a).run P w₁).andThen fun u w₂ => ((asAddr (tmps.getD r undef)).run P w₂).andThen fun a w₁ => ((loadVar t3 a).run P w₁).andThen fun x w₂ => .ok (.tuple #[v, u, x]) w₂ := by
  simp only [results, h]
  simp [Sem.run_bind, Result.andThen]
theorem agg24 (w : World) : (isAgg 24).run Tryz.prog w = .ok false w := by kernel_rfl
theorem agg41 (w : World) : (isAgg 41).run Tryz.prog w = .ok false w := by kernel_rfl
theorem lv_one {t : TypeId} (ha : ∀ w, (isAgg t).run Tryz.prog w = .ok false w) {w : World} {a : Addr} {v : Value} (hc : w.cell? a = some v) : (loadVar t a).run Tryz.prog w = .ok v w := by
  unfold loadVar
  rw [Sem.run_bind, ha]
  simp [Result.andThen, go_sem, hc]
def ndZ : List Value := [.int .i64 0, .int .u64 0, .slice none 0 0, .slice none 0 0]
theorem infoNd : (Tryz.prog.info? 40).map (·.size) = some 4 := by kernel_rfl
theorem ndZ_built : Tryz.prog.built 40 [] = some ndZ.toArray := by kernel_rfl
theorem suZ_built : Tryz.prog.built 29 [] = some suZ.toArray := by kernel_rfl
theorem blkZ_built : Tryz.prog.built 50 [] = some (bV (zeros 256)).toArray := by kernel_rfl
theorem res_nd {fn : Func} {p u : Tmp} (h : fn.results = #[.cell p 40, .tmp u]) (tmps : Array Value) (w : World) (g : Nat) (L : List Value) (x : Value) (hp : tmps.getD p undef = .pointer (some ⟨g, 0, none⟩)) (hx : tmps.getD u undef = x) (hr : w.rangeAt g 0 L) (hl : (Tryz.prog.info? 40).map (·.size) = some L.length) :
    (results fn tmps).run Tryz.prog w = .ok (.tuple #[.agg L.toArray, x]) w := by
  rw [results_cell_tmp h, hp, hx]
  have := run_loadVar_mid (P := Tryz.prog) w g 0 40 L _ hr Tryz.underlying40 rfl hl
  simp only [asAddr, Sem.run_pure, Result.andThen_ok, this]

set_option maxRecDepth 100000 in
set_option maxHeartbeats 3200000 in
theorem sready_no (w : World) (v : Value) (h : StV w v) : Calls Tryz.prog 54 #[v] w fun e w' => e = .returned (.int .i64 1) ∧ w = w' := by
  rcases h with rfl | ⟨z, rfl, h⟩
  · go_enter Tryz.func54, Tryz.ntmps54
    go_wp2_with fail
    go_ret
    exact ⟨rfl, rfl⟩
  · have c0 := cellOf h 0 (v := .pointer none) rfl
    clear h
    go_enter Tryz.func54, Tryz.ntmps54
    go_wp2_with fail
    go_ret
    exact ⟨rfl, rfl⟩
set_option maxRecDepth 100000 in
set_option maxHeartbeats 3200000 in
theorem sis_no (w : World) (v : Value) (h : StV w v) (n : Nat) : Calls Tryz.prog 49 #[v, .int .u32 (n : Int)] w fun e w' => e = .returned (.int .i64 1) ∧ w = w' := by
  have HV := Lib.hid h
  obtain ⟨a, rfl⟩ := h.ptr
  clear h
  go_enter Tryz.func49, Tryz.ntmps49
  go_wp2_with fail
  refine (sready_no _ _ HV.out).mono ?_
  rintro e w2 ⟨rfl, rfl⟩
  go_wp2_with fail
  go_ret
  exact ⟨rfl, rfl⟩
set_option maxRecDepth 100000 in
set_option maxHeartbeats 3200000 in
theorem snode_no (w : World) (v : Value) (h : StV w v) (n : Nat) : Calls Tryz.prog 8 #[v, .int .u32 (n : Int)] w fun e w' => e = .returned (.tuple #[.agg ndZ.toArray, .int .i64 1]) ∧ Below w.heap.size w w' := by
  have HV := Lib.hid h
  obtain ⟨a, rfl⟩ := h.ptr
  clear h
  go_enter Tryz.func8, Tryz.ntmps8
  go_wp2_with fail
  refine (sis_no _ _ (HV.out.below (balloc (Below.refl _ _) _)) n).mono ?_
  rintro e w2 ⟨rfl, rfl⟩
  go_upto_region 3 with fail
  apply wp_region_lit
  refine wpL_build0 (by kernel_rfl) 40 rfl ndZ.toArray ndZ_built ?_
  iterate 3 go_step
  refine wpList_store_mid rfl 40 _ _ rfl w.heap.size 0 ndZ.toArray rfl rfl (thereOf (heap_alloc_new w _) (by simp [ndZ, suZ])) infoNd (by kernel_rfl) ?_
  repeat go_step
  refine bodyPost_ret (v := .tuple #[.agg ndZ.toArray, .int .i64 1]) (res_nd rfl _ _ w.heap.size ndZ _ rfl rfl (World.rangeAt_setCells_same _ _ _ _ (thereOf (heap_alloc_new w _) (by simp [ndZ, suZ]))) infoNd) rfl ⟨rfl, ?_⟩
  exact belowSets (Nat.le_refl _) _ _ _ (balloc (Below.refl _ _) _)
set_option maxRecDepth 100000 in
set_option maxHeartbeats 3200000 in
theorem snew_no (w : World) (v : Value) (h : StV w v) (k : Int) : Calls Tryz.prog 9 #[v, .agg #[.int .i64 k, .int .u64 0, .slice none 0 0, .slice none 0 0]] w fun e w' => e = .returned (.tuple #[.int .u32 0, .int .i64 1]) ∧ Below w.heap.size w w' := by
  have HV := Lib.hid h
  obtain ⟨a, rfl⟩ := h.ptr
  clear h
  go_enter Tryz.func9, Tryz.ntmps9
  go_wp2_with fail
  refine (sready_no _ _ (HV.out.below (by first | exact Below.refl _ _ | exact balloc (Below.refl _ _) _ | exact balloc (balloc (Below.refl _ _) _) _))).mono ?_
  rintro e w2 ⟨rfl, rfl⟩
  go_wp2_with fail
  go_ret2
  exact ⟨rfl, by first | exact Below.refl _ _ | exact balloc (Below.refl _ _) _ | exact balloc (balloc (Below.refl _ _) _) _⟩
set_option maxRecDepth 100000 in
set_option maxHeartbeats 6400000 in
theorem sshadow_no (w : World) (v : Value) (h : StV w v) (n : Nat) : Calls Tryz.prog 10 #[v, .int .u32 (n : Int)] w fun e w' => e = .returned (.tuple #[.int .u32 0, .agg ndZ.toArray, .int .i64 1]) ∧ Below w.heap.size w w' := by
  have HV := Lib.hid h
  obtain ⟨a, rfl⟩ := h.ptr
  clear h
  obtain ⟨w1, hw1⟩ : ∃ W, w.alloc (.cells #[.pointer a] 35) = W := ⟨_, rfl⟩
  have hb1 : Below w.heap.size w w1 := by rw [← hw1]; exact balloc (Below.refl _ _) _
  have hx1 : w1.heap[w.heap.size]? = some (.cells #[.pointer a] 35 (0, 0)) := by rw [← hw1]; exact heap_alloc_new _ _
  obtain ⟨w2, hw2⟩ : ∃ W, w1.alloc (.cells #[.int .u32 0] 24) = W := ⟨_, rfl⟩
  have hb2 : Below w1.heap.size w1 w2 := by rw [← hw2]; exact balloc (Below.refl _ _) _
  have hx2 : w2.heap[w1.heap.size]? = some (.cells #[.int .u32 0] 24 (0, 0)) := by rw [← hw2]; exact heap_alloc_new _ _
  obtain ⟨w3, hw3⟩ : ∃ W, w2.alloc (.cells #[.int .i64 0, .int .u64 0, .slice none 0 0, .slice none 0 0] 40) = W := ⟨_, rfl⟩
  have hb3 : Below w2.heap.size w2 w3 := by rw [← hw3]; exact balloc (Below.refl _ _) _
  have hx3 : w3.heap[w2.heap.size]? = some (.cells ndZ.toArray 40 (0, 0)) := by rw [← hw3]; exact heap_alloc_new _ _
  obtain ⟨w4, hw4⟩ : ∃ W, w3.alloc (.cells #[.int .i64 0] 41) = W := ⟨_, rfl⟩
  have hb4 : Below w3.heap.size w3 w4 := by rw [← hw4]; exact balloc (Below.refl _ _) _
  have hx4 : w4.heap[w3.heap.size]? = some (.cells #[.int .i64 0] 41 (0, 0)) := by rw [← hw4]; exact heap_alloc_new _ _
  obtain ⟨q1, hq1⟩ : ∃ q, w1.heap.size = q := ⟨_, rfl⟩
  obtain ⟨q2, hq2⟩ : ∃ q, w2.heap.size = q := ⟨_, rfl⟩
  obtain ⟨q3, hq3⟩ : ∃ q, w3.heap.size = q := ⟨_, rfl⟩
  have l1 := (Array.getElem?_eq_some_iff.1 hx1).1
  have l2 := (Array.getElem?_eq_some_iff.1 hx2).1
  have l3 := (Array.getElem?_eq_some_iff.1 hx3).1
  rw [hq1] at hx2 l1 l2
  rw [hq2] at hx3 l2 l3
  rw [hq3] at hx4 l3
  have HL := Lib.hid (And.intro l1 (And.intro l2 l3))
  have hx4a : w4.heap[w.heap.size]? = some (.cells #[.pointer a] 35 (0, 0)) := ((bthn hb2 (bthn hb3 hb4)).block _ (by omega)).trans hx1
  have hx4b : w4.heap[q1]? = some (.cells #[.int .u32 0] 24 (0, 0)) := ((bthn hb3 hb4).block _ (by omega)).trans hx2
  have hx4c : w4.heap[q2]? = some (.cells ndZ.toArray 40 (0, 0)) := (hb4.block _ (by omega)).trans hx3
  have HBB := Lib.hid (bthn hb1 (bthn hb2 (bthn hb3 hb4)))
  have CI := sis_no w4 _ (HV.out.below HBB.out) n
  have ca := cellOf hx4a 0 rfl
  have cb := cellOf hx4b 0 rfl
  have fb := frozenOf hx4b 0
  have HXB := Lib.hid hx4b
  have HXC := Lib.hid hx4c
  have HXD := Lib.hid hx4
  clear hb1 hx1 hb2 hx2 hb3 hx3 hb4 hx4 hx4a hx4b hx4c l1 l2 l3
  go_enter Tryz.func10, Tryz.ntmps10
  go_wp2_with fail
  (try rw [hw1, hq1])
  (try rw [hw2, hq2])
  (try rw [hw3, hq3])
  (try rw [hw4])
  clear hw1 hw2 hw3 hw4 hq1 hq2 hq3
  refine CI.mono ?_
  rintro e w5 ⟨rfl, rfl⟩
  clear CI
  obtain ⟨l1, l2, l3⟩ := HL.out
  obtain ⟨y1, hy1⟩ : ∃ W, w4.setCell ⟨q1, 0, none⟩ (.int .u32 0) = W := ⟨_, rfl⟩
  have g1 : y1.heap[q1]? = some (.cells #[.int .u32 0] 24 (0, 0)) := by rw [← hy1]; exact setOf HXB.out 0 _
  have g2 : y1.heap[q2]? = some (.cells ndZ.toArray 40 (0, 0)) := by rw [← hy1]; exact (Below.heap_setCell w4 ⟨q1, 0, none⟩ _ q2 (by show q2 ≠ q1; omega)).trans HXC.out
  have g3 : y1.heap[q3]? = some (.cells #[.int .i64 0] 41 (0, 0)) := by rw [← hy1]; exact (Below.heap_setCell w4 ⟨q1, 0, none⟩ _ q3 (by show q3 ≠ q1; omega)).trans HXD.out
  have hbs := HBB.out.size
  have HB1 : Hid (Below w.heap.size w y1) := Lib.hid (by rw [← hy1]; exact HBB.out.setCell (p := ⟨q1, 0, none⟩) (by show w.heap.size ≤ q1; omega) _)
  obtain ⟨y2, hy2⟩ : ∃ W, y1.setCells q2 0 ndZ = W := ⟨_, rfl⟩
  have HM2 : Hid (Mods [q2] y1 y2) := Lib.hid (by rw [← hy2]; exact mods_sets (List.mem_singleton.2 rfl) _ _ (Mods.refl _ _))
  have k1 : y2.heap[q1]? = some (.cells #[.int .u32 0] 24 (0, 0)) := (HM2.out.block _ (Array.getElem?_eq_some_iff.1 g1).1 (by simp; omega)).trans g1
  have k2 : y2.heap[q2]? = some (.cells ndZ.toArray 40 (0, 0)) := by rw [← hy2]; exact sets_all (cs := ndZ) g2 rfl
  have k3 : y2.heap[q3]? = some (.cells #[.int .i64 0] 41 (0, 0)) := (HM2.out.block _ (Array.getElem?_eq_some_iff.1 g3).1 (by simp; omega)).trans g3
  have ck := cellOf k3 0 rfl
  have fk := frozenOf k3 0
  have HK := Lib.hid (And.intro k1 (And.intro k2 k3))
  have HG2 := Lib.hid g2
  clear g1 g2 g3 k1 k2 k3 hbs
  go_upto_region 3 with fail
  apply wp_region_lit
  refine wpL_build0 (by kernel_rfl) 40 rfl ndZ.toArray ndZ_built ?_
  repeat (first
    | (refine wpList_store_mid rfl 40 _ _ rfl q2 0 ndZ.toArray rfl rfl (thereOf HG2.out (by decide)) infoNd (by kernel_rfl) ?_; simp only [List.toList_toArray]; (try rw [hy2]))
    | go_step)
  have e1 := HK.out.1
  refine bodyPost_ret (v := .tuple #[.int .u32 0, .agg ndZ.toArray, .int .i64 1]) ?_ rfl ⟨rfl, ?_⟩
  · rw [ret_eq3 rfl]
    have s1 : (y2.setCell ⟨q3, 0, none⟩ (.int .i64 1)).heap[q1]? = some (.cells #[.int .u32 0] 24 (0, 0)) := (Below.heap_setCell y2 ⟨q3, 0, none⟩ _ q1 (by show q1 ≠ q3; omega)).trans HK.out.1
    have s2 : (y2.setCell ⟨q3, 0, none⟩ (.int .i64 1)).heap[q2]? = some (.cells ndZ.toArray 40 (0, 0)) := (Below.heap_setCell y2 ⟨q3, 0, none⟩ _ q2 (by show q2 ≠ q3; omega)).trans HK.out.2.1
    have s3 := setOf HK.out.2.2 0 (.int .i64 1)
    have r1 := lv_one agg24 (cellOf s1 0 (v := .int .u32 0) rfl)
    have r2 := run_loadVar_mid (P := Tryz.prog) _ q2 0 40 ndZ _ (rangeOf s2) Tryz.underlying40 rfl infoNd
    have r3 := lv_one agg41 (cellOf s3 0 (v := .int .i64 1) rfl)
    simp only [asAddr, Array.getD_eq_getD_getElem?, List.getElem?_toArray, List.getElem?_cons_succ, List.getElem?_cons_zero, Option.getD_some, Sem.run_pure, Result.andThen_ok, r1, r2, r3]
  · refine (HB1.out.trans (HM2.out.below (fun k hk => by rw [List.mem_singleton.1 hk]; have := HBB.out.size; omega) HB1.out.size)).setCell (p := ⟨q3, 0, none⟩) (by show w.heap.size ≤ q3; omega) _
set_option maxRecDepth 100000 in
set_option maxHeartbeats 3200000 in
theorem snewd_no (w : World) (v : Value) (h : StV w v) : Calls Tryz.prog 11 #[v, .agg (bV (zeros 256)).toArray] w fun e w' => e = .returned (.tuple #[.int .u32 0, .int .i64 1]) ∧ Below w.heap.size w w' := by
  have HV := Lib.hid h
  obtain ⟨a, rfl⟩ := h.ptr
  clear h
  go_enter Tryz.func11, Tryz.ntmps11
  go_wp2_with fail
  refine (sready_no _ _ (HV.out.below (by first | exact Below.refl _ _ | exact balloc (Below.refl _ _) _ | exact balloc (balloc (Below.refl _ _) _) _))).mono ?_
  rintro e w2 ⟨rfl, rfl⟩
  go_wp2_with fail
  go_ret2
  exact ⟨rfl, by first | exact Below.refl _ _ | exact balloc (Below.refl _ _) _ | exact balloc (balloc (Below.refl _ _) _) _⟩
set_option maxRecDepth 100000 in
set_option maxHeartbeats 6400000 in
theorem sdata_no (w : World) (v : Value) (h : StV w v) (n : Nat) : Calls Tryz.prog 12 #[v, .int .u32 (n : Int)] w fun e w' => e = .returned (.tuple #[bA (zeros 256), .int .i64 1]) ∧ Below w.heap.size w w' := by
  have HV := Lib.hid h
  obtain ⟨a, rfl⟩ := h.ptr
  clear h
  obtain ⟨R, hR⟩ : ∃ R, zeros 256 = R := ⟨_, rfl⟩
  have HRL : Hid (R.length = 256) := Lib.hid (by rw [← hR]; exact zeros_len 256)
  have HBU : Hid (Tryz.prog.built 50 [] = some (bV R).toArray) := Lib.hid (by rw [← hR]; exact blkZ_built)
  have hrb : (bV R).toArray.size = 256 := by rw [List.size_toArray, bV_len, HRL.out]
  have CI := sready_no (w.alloc (.cells Tryz.zeroCells50 50)) (.pointer a) (HV.out.below (balloc (Below.refl _ _) _))
  obtain ⟨w1, hw1⟩ : ∃ W, w.alloc (.cells Tryz.zeroCells50 50) = W := ⟨_, rfl⟩
  have HB1 : Hid (Below w.heap.size w w1) := Lib.hid (by rw [← hw1]; exact balloc (Below.refl _ _) _)
  have HTH : Hid (w1.there w.heap.size 0 256) := Lib.hid (by rw [← hw1]; exact thereOf (heap_alloc_new _ _) (by rw [zszM]; exact Nat.le_refl _))
  rw [hw1] at CI
  rw [hR]
  clear hR
  go_enter Tryz.func12, Tryz.ntmps12
  go_wp2_with fail
  (try rw [hw1])
  clear hw1
  refine CI.mono ?_
  rintro e w2 ⟨rfl, rfl⟩
  go_upto_region 3 with fail
  apply wp_region_lit
  refine wpL_build0 (by kernel_rfl) 50 rfl (bV R).toArray HBU.out ?_
  repeat (first
    | (refine wpList_store_mid rfl 50 _ _ rfl w.heap.size 0 (bV R).toArray rfl rfl (by rw [hrb]; exact HTH.out) (by rw [hrb]; exact infoBlk) (blk_one R) ?_)
    | go_step)
  refine bodyPost_ret (v := .tuple #[bA R, .int .i64 1]) (res_blk rfl _ _ w.heap.size R _ rfl rfl (World.rangeAt_setCells_same _ _ _ _ (by rw [bV_len, HRL.out]; exact HTH.out)) HRL.out) rfl ⟨rfl, ?_⟩
  exact belowSets (Nat.le_refl _) _ _ _ HB1.out
set_option maxRecDepth 100000 in
set_option maxHeartbeats 3200000 in
theorem sabort_no (w : World) (v : Value) (h : StV w v) : Calls Tryz.prog 13 #[v] w fun e w' => e = .returned (.tuple #[]) ∧ w = w' := by
  rcases h with rfl | ⟨z, rfl, h⟩
  · go_enter Tryz.func13, Tryz.ntmps13
    go_wp2_with fail
    exact bodyPost_ret (v := .tuple #[]) (by kernel_rfl) rfl ⟨rfl, rfl⟩
  · have c0 := cellOf h 0 (v := .pointer none) rfl
    clear h
    go_enter Tryz.func13, Tryz.ntmps13
    go_wp2_with fail
    exact bodyPost_ret (v := .tuple #[]) (by kernel_rfl) rfl ⟨rfl, rfl⟩
set_option maxRecDepth 100000 in
set_option maxHeartbeats 1600000 in
theorem len_nil (w : World) : Calls Tryz.prog 68 #[.pointer none] w fun e w' => e = .returned (.int .i64 0) ∧ w = w' := by
  go_enter Tryz.func68, Tryz.ntmps68
  go_wp2_with fail
  go_ret
  exact ⟨rfl, rfl⟩
set_option maxRecDepth 100000 in
set_option maxHeartbeats 1600000 in
theorem free_nil (w : World) : Calls Tryz.prog 64 #[.pointer none] w fun e w' => e = .returned (.int .i64 0) ∧ w = w' := by
  have C := len_nil w
  go_enter Tryz.func64, Tryz.ntmps64
  go_wp2_with fail
  refine C.mono ?_
  rintro e w2 ⟨rfl, rfl⟩
  clear C
  go_wp2_with fail
  go_loopw [2, 6] (fun c i wr => c = .int .i64 0 ∧ i = .int .i64 0 ∧ w = wr) (fun _ _ _ => 0)
  case atStart => exact ⟨rfl, rfl, rfl⟩
  case round =>
    obtain ⟨rfl, rfl, rfl⟩ := hrel
    go_wp2_with fail
    go_ret
    exact ⟨rfl, rfl⟩
set_option maxRecDepth 100000 in
set_option maxHeartbeats 3200000 in
theorem sroom_no (w : World) (v : Value) (h : StV w v) : Calls Tryz.prog 14 #[v] w fun e w' => e = .returned (.tuple #[.int .i64 0, .int .i64 0]) ∧ Below w.heap.size w w' := by
  rcases h with rfl | ⟨z, rfl, h⟩
  · go_enter Tryz.func14, Tryz.ntmps14
    go_wp2_with fail
    go_ret2
    exact ⟨rfl, Below.refl _ _⟩
  · have HC1 : Hid (w.cell? ⟨z, 20, none⟩ = some (.pointer none)) := Lib.hid (cellOf h 20 rfl)
    have HC2 : Hid (w.cell? ⟨z, 21, none⟩ = some (.pointer none)) := Lib.hid (cellOf h 21 rfl)
    have HSL : Hid (z < w.heap.size) := Lib.hid (Array.getElem?_eq_some_iff.1 h).1
    have CF : Hid (∀ X, Calls Tryz.prog 64 #[.pointer none] X fun e w' => e = .returned (.int .i64 0) ∧ Below X.heap.size X w') := Lib.hid (fun X => (free_nil X).mono fun e w' hp => ⟨hp.1, by rw [← hp.2]; exact Below.refl _ _⟩)
    clear h
    go_enter Tryz.func14, Tryz.ntmps14
    go_wp2_with fail
    have HSS : Hid (∀ X, Below w.heap.size w X → (X.cell? ⟨z, 20, none⟩ = some (.pointer none) ∧ X.cell? ⟨z, 21, none⟩ = some (.pointer none)) ∧ Below w.heap.size w X) := Lib.hid (fun X hb => ⟨⟨(World.cell?_of_block (hb.block _ (HSL.out))).trans (HC1.out), (World.cell?_of_block (hb.block _ (HSL.out))).trans (HC2.out)⟩, hb⟩)
    refine wp_region_held_drew (S := fun X => (X.cell? ⟨z, 20, none⟩ = some (.pointer none) ∧ X.cell? ⟨z, 21, none⟩ = some (.pointer none)) ∧ Below w.heap.size w X) (by kernel_rfl) (HSS.out _ (Below.refl _ _).drew) (fun hHeld => ?_)
    have hbe : Below w.heap.size w w.drew := (Below.refl _ _).drew
    obtain ⟨wd, hwd⟩ : ∃ y, w.drew = y := ⟨_, rfl⟩
    rw [hwd] at hHeld hbe ⊢
    have HBE := Lib.hid hbe
    have HS0 : Hid (w.heap.size ≤ wd.heap.size) := Lib.hid HBE.out.size
    clear hwd hbe
    refine wpAnyH_take (i := 0) (v := ?_) rfl (by kernel_rfl) (by kernel_rfl) (by kernel_rfl) (fun _ _ _ h => h) (Or.inl ⟨by rfl, ?_⟩) (by assumption) ?_
    rotate_left
    · (intro w hSw; (try dsimp only at hSw); simp only [List.getElem_toArray, List.getElem_cons_zero, List.getElem_cons_succ]; go_simp; first | done | with_reducible rfl)
    simp only [List.getElem_toArray, List.getElem_cons_zero, List.getElem_cons_succ, Act.put, List.setIfInBounds_toArray, List.set_cons_zero, List.set_cons_succ]
    refine wpAnyH_take (i := 5) (v := ?_) rfl (by kernel_rfl) (by kernel_rfl) (by kernel_rfl) (fun _ _ _ h => h) (Or.inl ⟨by rfl, ?_⟩) (by assumption) ?_
    rotate_left
    · (intro w hSw; (try dsimp only at hSw); simp only [List.getElem_toArray, List.getElem_cons_zero, List.getElem_cons_succ]; go_simp; first | done | with_reducible rfl)
    simp only [List.getElem_toArray, List.getElem_cons_zero, List.getElem_cons_succ, Act.put, List.setIfInBounds_toArray, List.set_cons_zero, List.set_cons_succ]
    refine wpAnyH_take (i := 1) (v := ?_) rfl (by kernel_rfl) (by kernel_rfl) (by kernel_rfl) (fun _ _ _ h => h) (Or.inl ⟨by rfl, ?_⟩) (by assumption) ?_
    rotate_left
    · (intro w hSw; (try dsimp only at hSw); simp only [List.getElem_toArray, List.getElem_cons_zero, List.getElem_cons_succ]; go_simp; first | done | with_reducible rfl)
    simp only [List.getElem_toArray, List.getElem_cons_zero, List.getElem_cons_succ, Act.put, List.setIfInBounds_toArray, List.set_cons_zero, List.set_cons_succ]
    refine wpAnyH_take (i := 6) (v := ?_) rfl (by kernel_rfl) (by kernel_rfl) (by kernel_rfl) (fun _ _ _ h => h) (Or.inl ⟨by rfl, ?_⟩) (by assumption) ?_
    rotate_left
    · (intro w hSw; (try dsimp only at hSw); simp only [List.getElem_toArray, List.getElem_cons_zero, List.getElem_cons_succ]; go_simp; first | done | with_reducible rfl)
    simp only [List.getElem_toArray, List.getElem_cons_zero, List.getElem_cons_succ, Act.put, List.setIfInBounds_toArray, List.set_cons_zero, List.set_cons_succ]
    refine wpAnyH_take (i := 2) (v := ?_) rfl (by kernel_rfl) (by kernel_rfl) (by kernel_rfl) (fun _ _ _ h => h) (Or.inl ⟨by rfl, ?_⟩) (by assumption) ?_
    rotate_left
    · (intro w hSw; (try dsimp only at hSw); simp only [List.getElem_toArray, List.getElem_cons_zero, List.getElem_cons_succ]; go_simp; first | done | with_reducible rfl)
    simp only [List.getElem_toArray, List.getElem_cons_zero, List.getElem_cons_succ, Act.put, List.setIfInBounds_toArray, List.set_cons_zero, List.set_cons_succ]
    refine wpAnyH_take (i := 7) (v := ?_) rfl (by kernel_rfl) (by kernel_rfl) (by kernel_rfl) (fun _ _ _ h => h) (Or.inl ⟨by rfl, ?_⟩) (by assumption) ?_
    rotate_left
    · (intro w hSw; (try dsimp only at hSw); simp only [List.getElem_toArray, List.getElem_cons_zero, List.getElem_cons_succ]; go_simp; first | done | with_reducible rfl)
    simp only [List.getElem_toArray, List.getElem_cons_zero, List.getElem_cons_succ, Act.put, List.setIfInBounds_toArray, List.set_cons_zero, List.set_cons_succ]
    refine wpAnyH_take (i := 3) (v := ?_) rfl (by kernel_rfl) (by kernel_rfl) (by kernel_rfl) (fun _ _ _ h => h) (Or.inl ⟨by rfl, ?_⟩) (by assumption) ?_
    rotate_left
    · (intro w hSw; (try dsimp only at hSw); simp only [List.getElem_toArray, List.getElem_cons_zero, List.getElem_cons_succ]; go_simp; first | done | with_reducible rfl)
    simp only [List.getElem_toArray, List.getElem_cons_zero, List.getElem_cons_succ, Act.put, List.setIfInBounds_toArray, List.set_cons_zero, List.set_cons_succ]
    refine wpAnyH_take (i := 8) (v := ?_) rfl (by kernel_rfl) (by kernel_rfl) (by kernel_rfl) (fun _ _ _ h => h) (Or.inl ⟨by rfl, ?_⟩) (by assumption) ?_
    rotate_left
    · (intro w hSw; (try dsimp only at hSw); simp only [List.getElem_toArray, List.getElem_cons_zero, List.getElem_cons_succ]; go_simp; first | done | with_reducible rfl)
    simp only [List.getElem_toArray, List.getElem_cons_zero, List.getElem_cons_succ, Act.put, List.setIfInBounds_toArray, List.set_cons_zero, List.set_cons_succ]
    refine wpAnyH_ready (rs := [4]) (by kernel_rfl) (by simp) ?_
    refine AllReadyH.cons rfl (fun K hK => ?_) (AllReadyH.nil)
    simp only [List.getElem_toArray, List.getElem_cons_zero, List.getElem_cons_succ]
    go_simp
    refine (CF.out _).mono ?_
    rintro e y4 ⟨rfl, hb4⟩
    dsimp only
    have HBE := Lib.hid (bthen HBE.out hb4)
    have hSp := HSS.out _ HBE.out
    clear hHeld
    refine hK.out _ _ hSp (fun hHeld => ?_)
    clear hSp hK K
    try simp only [Act.put, List.setIfInBounds_toArray, List.set_cons_zero, List.set_cons_succ]
    have HC4 := Lib.hid hb4
    clear hb4
    refine wpAnyH_ready (rs := [9]) (by kernel_rfl) (by simp) ?_
    refine AllReadyH.cons rfl (fun K hK => ?_) (AllReadyH.nil)
    simp only [List.getElem_toArray, List.getElem_cons_zero, List.getElem_cons_succ]
    go_simp
    refine (CF.out _).mono ?_
    rintro e y9 ⟨rfl, hb9⟩
    dsimp only
    have HBE := Lib.hid (bthen HBE.out hb9)
    have hSp := HSS.out _ HBE.out
    clear hHeld
    refine hK.out _ _ hSp (fun hHeld => ?_)
    clear hSp hK K
    try simp only [Act.put, List.setIfInBounds_toArray, List.set_cons_zero, List.set_cons_succ]
    have HC9 := Lib.hid hb9
    clear hb9
    refine wpAnyH_take (i := 10) (v := ?_) rfl (by kernel_rfl) (by kernel_rfl) (by kernel_rfl) (fun _ _ _ h => h) (Or.inl ⟨by rfl, ?_⟩) (by assumption) ?_
    rotate_left
    · (intro w hSw; (try dsimp only at hSw); simp only [List.getElem_toArray, List.getElem_cons_zero, List.getElem_cons_succ]; go_simp; first | done | with_reducible rfl)
    simp only [List.getElem_toArray, List.getElem_cons_zero, List.getElem_cons_succ, Act.put, List.setIfInBounds_toArray, List.set_cons_zero, List.set_cons_succ]
    refine wpAnyH_take (i := 11) (v := ?_) rfl (by kernel_rfl) (by kernel_rfl) (by kernel_rfl) (fun _ _ _ h => h) (Or.inl ⟨by rfl, ?_⟩) (by assumption) ?_
    rotate_left
    · (intro w hSw; (try dsimp only at hSw); simp only [List.getElem_toArray, List.getElem_cons_zero, List.getElem_cons_succ]; go_simp; first | done | with_reducible rfl)
    simp only [List.getElem_toArray, List.getElem_cons_zero, List.getElem_cons_succ, Act.put, List.setIfInBounds_toArray, List.set_cons_zero, List.set_cons_succ]
    refine wpAnyH_done (by kernel_rfl) ?_ _
    have HEND := Lib.hid hHeld.2
    have HSE := Lib.hid hHeld.1
    clear hHeld
    clear HSS HSE HEND
    go_wp2_with fail
    go_ret2
    exact ⟨rfl, HBE.out⟩
set_option maxRecDepth 100000 in
set_option maxHeartbeats 3200000 in
theorem sput_no (w : World) (v : Value) (h : StV w v) (n : Nat) : Calls Tryz.prog 15 #[v, .int .u32 (n : Int), .agg #[.int .i64 0, .int .u64 0, .slice none 0 0, .slice none 0 0]] w fun e w' => e = .returned (.int .i64 1) ∧ Below w.heap.size w w' := by
  have HV := Lib.hid h
  obtain ⟨a, rfl⟩ := h.ptr
  clear h
  go_enter Tryz.func15, Tryz.ntmps15
  go_wp2_with fail
  refine (sready_no _ _ (HV.out.below (by first | exact Below.refl _ _ | exact balloc (Below.refl _ _) _ | exact balloc (balloc (Below.refl _ _) _) _))).mono ?_
  rintro e w2 ⟨rfl, rfl⟩
  go_wp2_with fail
  go_ret
  exact ⟨rfl, by first | exact Below.refl _ _ | exact balloc (Below.refl _ _) _ | exact balloc (balloc (Below.refl _ _) _) _⟩
set_option maxRecDepth 100000 in
set_option maxHeartbeats 3200000 in
theorem shold_no (w : World) (v : Value) (h : StV w v) (n : Nat) : Calls Tryz.prog 16 #[v, .int .u32 (n : Int)] w fun e w' => e = .returned (.int .i64 1) ∧ Below w.heap.size w w' := by
  have HV := Lib.hid h
  obtain ⟨a, rfl⟩ := h.ptr
  clear h
  go_enter Tryz.func16, Tryz.ntmps16
  go_wp2_with fail
  refine (sready_no _ _ (HV.out.below (by first | exact Below.refl _ _ | exact balloc (Below.refl _ _) _ | exact balloc (balloc (Below.refl _ _) _) _))).mono ?_
  rintro e w2 ⟨rfl, rfl⟩
  go_wp2_with fail
  go_ret
  exact ⟨rfl, by first | exact Below.refl _ _ | exact balloc (Below.refl _ _) _ | exact balloc (balloc (Below.refl _ _) _) _⟩
set_option maxRecDepth 100000 in
set_option maxHeartbeats 3200000 in
theorem sdrop_no (w : World) (v : Value) (h : StV w v) (n : Nat) : Calls Tryz.prog 17 #[v, .int .u32 (n : Int)] w fun e w' => e = .returned (.int .i64 1) ∧ Below w.heap.size w w' := by
  have HV := Lib.hid h
  obtain ⟨a, rfl⟩ := h.ptr
  clear h
  obtain ⟨w1, hw1⟩ : ∃ W, w.alloc (.cells #[.pointer a] 35) = W := ⟨_, rfl⟩
  have hb1 : Below w.heap.size w w1 := by rw [← hw1]; exact balloc (Below.refl _ _) _
  have hx1 : w1.heap[w.heap.size]? = some (.cells #[.pointer a] 35 (0, 0)) := by rw [← hw1]; exact heap_alloc_new _ _
  obtain ⟨w2, hw2⟩ : ∃ W, w1.alloc (.cells #[.int .i64 0] 41) = W := ⟨_, rfl⟩
  have hb2 : Below w1.heap.size w1 w2 := by rw [← hw2]; exact balloc (Below.refl _ _) _
  have hx2 : w2.heap[w1.heap.size]? = some (.cells #[.int .i64 0] 41 (0, 0)) := by rw [← hw2]; exact heap_alloc_new _ _
  have hx1b := (hb2.block _ (Array.getElem?_eq_some_iff.1 hx1).1).trans hx1
  obtain ⟨q, hq⟩ : ∃ q, w1.heap.size = q := ⟨_, rfl⟩
  rw [hq] at hx2
  have HQ : Hid (w.heap.size ≤ q) := Lib.hid (by rw [← hq]; exact hb1.size)
  have HBB := Lib.hid (bthn hb1 hb2)
  have HX := Lib.hid hx2
  have CI := sready_no w2 _ (HV.out.below HBB.out)
  have ca := cellOf hx1b 0 rfl
  have cb := cellOf hx2 0 rfl
  have fb := frozenOf hx2 0
  clear hb1 hx1 hb2 hx2 hx1b
  go_enter Tryz.func17, Tryz.ntmps17
  go_wp2_with fail
  (try rw [hw1, hq])
  (try rw [hw2])
  clear hw1 hw2 hq
  refine CI.mono ?_
  rintro e w5 ⟨rfl, rfl⟩
  clear CI
  go_wp2_with fail
  refine bodyPost_ret (v := .int .i64 1) ?_ rfl ⟨rfl, HBB.out.setCell (p := ⟨q, 0, none⟩) HQ.out _⟩
  rw [ret_eq rfl]
  have r3 := lv_one agg41 (cellOf (setOf HX.out 0 (.int .i64 1)) 0 (v := .int .i64 1) rfl)
  simp only [asAddr, Array.getD_eq_getD_getElem?, List.getElem?_toArray, List.getElem?_cons_succ, List.getElem?_cons_zero, Option.getD_some, Sem.run_pure, Result.andThen_ok, r3]
set_option maxRecDepth 100000 in
set_option maxHeartbeats 3200000 in
theorem sfree_no (w : World) (v : Value) (h : StV w v) (n : Nat) : Calls Tryz.prog 18 #[v, .int .u32 (n : Int)] w fun e w' => e = .returned (.int .i64 1) ∧ Below w.heap.size w w' := by
  have HV := Lib.hid h
  obtain ⟨a, rfl⟩ := h.ptr
  clear h
  go_enter Tryz.func18, Tryz.ntmps18
  go_wp2_with fail
  refine (sready_no _ _ (HV.out.below (by first | exact Below.refl _ _ | exact balloc (Below.refl _ _) _ | exact balloc (balloc (Below.refl _ _) _) _))).mono ?_
  rintro e w2 ⟨rfl, rfl⟩
  go_wp2_with fail
  go_ret
  exact ⟨rfl, by first | exact Below.refl _ _ | exact balloc (Below.refl _ _) _ | exact balloc (balloc (Below.refl _ _) _) _⟩
set_option maxRecDepth 100000 in
set_option maxHeartbeats 3200000 in
theorem sdropd_no (w : World) (v : Value) (h : StV w v) (n : Nat) : Calls Tryz.prog 19 #[v, .int .u32 (n : Int)] w fun e w' => e = .returned (.int .i64 1) ∧ Below w.heap.size w w' := by
  have HV := Lib.hid h
  obtain ⟨a, rfl⟩ := h.ptr
  clear h
  go_enter Tryz.func19, Tryz.ntmps19
  go_wp2_with fail
  refine (sready_no _ _ (HV.out.below (by first | exact Below.refl _ _ | exact balloc (Below.refl _ _) _ | exact balloc (balloc (Below.refl _ _) _) _))).mono ?_
  rintro e w2 ⟨rfl, rfl⟩
  go_wp2_with fail
  go_ret
  exact ⟨rfl, by first | exact Below.refl _ _ | exact balloc (Below.refl _ _) _ | exact balloc (balloc (Below.refl _ _) _) _⟩
set_option maxRecDepth 100000 in
set_option maxHeartbeats 3200000 in
theorem scommit_no (w : World) (v : Value) (h : StV w v) : Calls Tryz.prog 20 #[v, .agg suZ.toArray] w fun e w' => e = .returned (.int .i64 1) ∧ Below w.heap.size w w' := by
  have HV := Lib.hid h
  obtain ⟨a, rfl⟩ := h.ptr
  clear h
  go_enter Tryz.func20, Tryz.ntmps20
  go_wp2_with fail
  refine (sready_no _ _ (HV.out.below (by first | exact Below.refl _ _ | exact balloc (Below.refl _ _) _ | exact balloc (balloc (Below.refl _ _) _) _))).mono ?_
  rintro e w2 ⟨rfl, rfl⟩
  go_wp2_with fail
  go_ret
  exact ⟨rfl, by first | exact Below.refl _ _ | exact balloc (Below.refl _ _) _ | exact balloc (balloc (Below.refl _ _) _) _⟩
set_option maxRecDepth 100000 in
set_option maxHeartbeats 3200000 in
theorem sgrow_no (w : World) (v : Value) (h : StV w v) (k : Int) : Calls Tryz.prog 21 #[v, .int .i64 k] w fun e w' => e = .returned (.int .i64 1) ∧ Below w.heap.size w w' := by
  have HV := Lib.hid h
  obtain ⟨a, rfl⟩ := h.ptr
  clear h
  go_enter Tryz.func21, Tryz.ntmps21
  go_wp2_with fail
  refine (sready_no _ _ (HV.out.below (by first | exact Below.refl _ _ | exact balloc (Below.refl _ _) _ | exact balloc (balloc (Below.refl _ _) _) _))).mono ?_
  rintro e w2 ⟨rfl, rfl⟩
  go_wp2_with fail
  go_ret
  exact ⟨rfl, by first | exact Below.refl _ _ | exact balloc (Below.refl _ _) _ | exact balloc (balloc (Below.refl _ _) _) _⟩
theorem res_one_sup {fn : Func} {p : Tmp} (h : fn.results = #[.cell p 29]) (tmps : Array Value) (w : World) (g : Nat) (L : List Value) (hp : tmps.getD p undef = .pointer (some ⟨g, 0, none⟩)) (hr : w.rangeAt g 0 L) (hl : (Tryz.prog.info? 29).map (·.size) = some L.length) :
    (results fn tmps).run Tryz.prog w = .ok (.agg L.toArray) w := by
  rw [ret_eq h, hp]
  have := run_loadVar_mid (P := Tryz.prog) w g 0 29 L _ hr Tryz.underlying29 rfl hl
  simp only [asAddr, Sem.run_pure, Result.andThen_ok, this]
set_option maxRecDepth 100000 in
set_option maxHeartbeats 6400000 in
theorem ssuper_no (w : World) (v : Value) (h : StV w v) : Calls Tryz.prog 22 #[v] w fun e w' => e = .returned (.agg suZ.toArray) ∧ Below w.heap.size w w' := by
  rcases h with rfl | ⟨z, rfl, h⟩
  · go_enter Tryz.func22, Tryz.ntmps22
    go_upto_region 2 with fail
    apply wp_region_lit
    refine wpL_build0 (by kernel_rfl) 29 rfl suZ.toArray suZ_built ?_
    repeat (first
      | (refine wpList_store_mid rfl 29 _ _ rfl w.heap.size 0 suZ.toArray rfl rfl (thereOf (heap_alloc_new w _) (by simp [ndZ, suZ])) infoSup (by kernel_rfl) ?_)
      | go_step)
    refine bodyPost_ret (v := .agg suZ.toArray) (res_one_sup rfl _ _ w.heap.size suZ rfl (World.rangeAt_setCells_same _ _ _ _ (thereOf (heap_alloc_new w _) (by simp [ndZ, suZ]))) infoSup) rfl ⟨rfl, ?_⟩
    exact belowSets (Nat.le_refl _) _ _ _ (balloc (Below.refl _ _) _)
  · have HR : Hid (∀ X, Below w.heap.size w X → X.rangeAt z 1 suZ) := Lib.hid (fun X hX => by
      have h1 : X.heap[z]? = some (.cells stZ 34 (0, 0)) := (hX.block _ (Array.getElem?_eq_some_iff.1 h).1).trans h
      intro j u hj
      refine cellOf h1 (1 + j) ?_
      have hj19 : j < 19 := (List.getElem?_eq_some_iff.1 hj).1
      rcases (show j = 0 ∨ j = 1 ∨ j = 2 ∨ j = 3 ∨ j = 4 ∨ j = 5 ∨ j = 6 ∨ j = 7 ∨ j = 8 ∨ j = 9 ∨ j = 10 ∨ j = 11 ∨ j = 12 ∨ j = 13 ∨ j = 14 ∨ j = 15 ∨ j = 16 ∨ j = 17 ∨ j = 18 by omega) with rfl | rfl | rfl | rfl | rfl | rfl | rfl | rfl | rfl | rfl | rfl | rfl | rfl | rfl | rfl | rfl | rfl | rfl | rfl <;> exact hj)
    clear h
    go_enter Tryz.func22, Tryz.ntmps22
    go_upto_region 3 with fail
    apply wp_region_lit
    repeat (first
      | (refine wpList_load_mid rfl 29 _ rfl z 1 rfl suZ _ (HR.out _ (balloc (Below.refl _ _) _)) Tryz.underlying29 rfl infoSup ?_)
      | (refine wpList_store_mid rfl 29 _ _ rfl w.heap.size 0 suZ.toArray rfl rfl (thereOf (heap_alloc_new w _) (by simp [ndZ, suZ])) infoSup (by kernel_rfl) ?_)
      | go_step)
    refine bodyPost_ret (v := .agg suZ.toArray) (res_one_sup rfl _ _ w.heap.size suZ rfl (World.rangeAt_setCells_same _ _ _ _ (thereOf (heap_alloc_new w _) (by simp [ndZ, suZ]))) infoSup) rfl ⟨rfl, ?_⟩
    exact belowSets (Nat.le_refl _) _ _ _ (balloc (Below.refl _ _) _)
set_option maxRecDepth 100000 in
set_option maxHeartbeats 3200000 in
theorem scount_no (w : World) (v : Value) (h : StV w v) (n : Nat) (hn : n < 4294967296) : Calls Tryz.prog 23 #[v, .int .u32 (n : Int)] w fun e w' => e = .returned (.int .u16 0) ∧ w = w' := by
  rcases h with rfl | ⟨z, rfl, h⟩
  · go_enter Tryz.func23, Tryz.ntmps23
    go_wp2_with fail
    go_ret
    exact ⟨rfl, rfl⟩
  · have c0 := cellOf h 2 (v := .int .i64 0) rfl
    have hw : IntKind.i64.wrap (n : Int) = (n : Int) := IntWalk.i64_in _ ⟨by omega, by omega⟩
    have hz : decide ((0 : Int) ≤ (n : Int)) = true := decide_eq_true (by omega)
    clear h
    go_enter Tryz.func23, Tryz.ntmps23
    go_wp2_with fail
    go_ret
    exact ⟨rfl, rfl⟩
set_option maxRecDepth 100000 in
set_option maxHeartbeats 3200000 in
theorem sdcount_no (w : World) (v : Value) (h : StV w v) (n : Nat) (hn : n < 4294967296) : Calls Tryz.prog 24 #[v, .int .u32 (n : Int)] w fun e w' => e = .returned (.int .u16 0) ∧ w = w' := by
  rcases h with rfl | ⟨z, rfl, h⟩
  · go_enter Tryz.func24, Tryz.ntmps24
    go_wp2_with fail
    go_ret
    exact ⟨rfl, rfl⟩
  · have c0 := cellOf h 3 (v := .int .i64 0) rfl
    have hw : IntKind.i64.wrap (n : Int) = (n : Int) := IntWalk.i64_in _ ⟨by omega, by omega⟩
    have hz : decide ((0 : Int) ≤ (n : Int)) = true := decide_eq_true (by omega)
    clear h
    go_enter Tryz.func24, Tryz.ntmps24
    go_wp2_with fail
    go_ret
    exact ⟨rfl, rfl⟩
set_option maxRecDepth 100000 in
set_option maxHeartbeats 3200000 in
theorem sfresh_no (w : World) (v : Value) (h : StV w v) : Calls Tryz.prog 25 #[v] w fun e w' => e = .returned (.int .i64 0) ∧ w = w' := by
  rcases h with rfl | ⟨z, rfl, h⟩
  · go_enter Tryz.func25, Tryz.ntmps25
    go_wp2_with fail
    go_ret
    exact ⟨rfl, rfl⟩
  · have c0 := cellOf h 22 (v := .map none) rfl
    clear h
    go_enter Tryz.func25, Tryz.ntmps25
    go_wp2_with fail
    go_ret
    exact ⟨rfl, rfl⟩
set_option maxRecDepth 100000 in
set_option maxHeartbeats 3200000 in
theorem sbroken_no (w : World) (v : Value) (h : StV w v) : Calls Tryz.prog 26 #[v] w fun e w' => e = .returned (.bool false) ∧ w = w' := by
  rcases h with rfl | ⟨z, rfl, h⟩
  · go_enter Tryz.func26, Tryz.ntmps26
    go_wp2_with fail
    go_ret
    exact ⟨rfl, rfl⟩
  · have c0 := cellOf h 24 (v := .bool false) rfl
    clear h
    go_enter Tryz.func26, Tryz.ntmps26
    go_wp2_with fail
    go_ret
    exact ⟨rfl, rfl⟩
set_option maxRecDepth 100000 in
set_option maxHeartbeats 3200000 in
theorem sopen_nil (w : World) : Calls Tryz.prog 27 #[.pointer none] w fun e w' => e = .returned (.tuple #[.pointer none, .int .i64 1]) ∧ w = w' := by
  have C := dsec_nil w
  go_enter Tryz.func27, Tryz.ntmps27
  go_wp2_with fail
  refine C.mono ?_
  rintro e w2 ⟨rfl, rfl⟩
  clear C
  go_wp2_with fail
  go_ret2
  exact ⟨rfl, rfl⟩
set_option maxRecDepth 100000 in
set_option maxHeartbeats 6400000 in
theorem sfmt_nil (w : World) (m k : Nat) (hm : m ≤ 1000) (hk : k ≤ 1000) : Calls Tryz.prog 28 #[.pointer none, .int .i64 (m : Int), .int .i64 (k : Int)] w fun e w' => e = .returned (.int .i64 1) ∧ Below w.heap.size w w' := by
  have C : Hid (∀ X, Calls Tryz.prog 74 #[.pointer none] X fun e w' => e = .returned (.int .i64 0) ∧ X = w') := Lib.hid (fun X => dsec_nil X)
  obtain ⟨SL, hSL⟩ : ∃ L, suL (suF m k 0) = L := ⟨_, rfl⟩
  have HS19 : Hid (SL.length = 19) := Lib.hid (by rw [← hSL]; rfl)
  have HS1 : Hid (∀ u ∈ SL, u.oneCell' = true) := Lib.hid (by rw [← hSL]; exact suL_one _)
  have HBU : Hid (Tryz.prog.built 29 [(0, .int .u64 1), (1, .int .i64 (m : Int)), (2, .int .i64 (k : Int))] = some SL.toArray) := Lib.hid (by rw [← hSL]; kernel_rfl)
  have hss : SL.toArray.size = 19 := by rw [List.size_toArray, HS19.out]
  clear hSL
  go_enter Tryz.func28, Tryz.ntmps28
  go_upto_region 1 with fail
  apply wp_region_lit
  iterate 6 go_step
  refine wpL_build (by kernel_rfl) 29 _ rfl #[(0, .int .u64 1), (1, .int .i64 (m : Int)), (2, .int .i64 (k : Int))] (by simp only [List.map_toArray, List.map_cons, List.map_nil]; rfl) SL.toArray HBU.out ?_
  repeat (first
    | (refine wpList_store_mid rfl 29 _ _ rfl w.heap.size 0 SL.toArray rfl rfl (thereOf (heap_alloc_new w _) (by rw [hss]; simp)) (by rw [hss]; exact infoSup) (Array.all_eq_true_iff_forall_mem.2 (fun v hv => HS1.out v (by simpa using hv))) ?_; refine Hid.out ?_)
    | go_step)
  refine Lib.hid ?_
  simp only [List.toList_toArray]
  obtain ⟨w1, hw1⟩ : ∃ W, (w.alloc (.cells #[.int .u64 0, .int .i64 0, .int .i64 0, .int .u32 0, .int .u32 0, .int .u32 0, .int .u32 0, .int .u32 0, .int .u32 0, .int .u32 0, .int .u32 0, .int .u32 0, .int .i64 0, .int .u64 0, .int .u64 0, .int .u64 0, .int .u64 0, .int .u64 0, .bool false] 29)).setCells w.heap.size 0 SL = W := ⟨_, rfl⟩
  have HB1 : Hid (Below w.heap.size w w1) := Lib.hid (by rw [← hw1]; exact belowSets (Nat.le_refl _) _ _ _ (balloc (Below.refl _ _) _))
  rw [hw1]
  have C1 := C.out w1
  clear hw1 hss
  go_wp2_with fail
  refine C1.mono ?_
  rintro e w2 ⟨rfl, rfl⟩
  clear C1
  go_wp2_with fail
  go_ret
  exact ⟨rfl, HB1.out⟩
end Go.Proofs.YtcdobdjemlaaaaaGreat
