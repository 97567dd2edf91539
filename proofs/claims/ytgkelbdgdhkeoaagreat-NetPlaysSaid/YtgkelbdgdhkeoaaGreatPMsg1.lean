/- What nodes say: cells; SameItem, walked. -/
import Derived.Test.YtgkelbdgdhkeoaaGreatPMsg0
import Derived.Test.YtgkelbdgdhkeoaaGreatPCR
namespace Go.Proofs.YtgkelbdgdhkeoaaGreat
open Go.RowKit
set_option linter.unusedVariables false
set_option linter.unusedSimpArgs false
open Wire Cmd
section
variable {P : Program} {ops : Array Oper} {Q : Exit → Act → World → Prop} {a : Act} {w : World} {rest : List Oper} {o : Oper}
theorem wpList_met (hw : Region.wanted o (yielded ops a.tmps) = true) (h : ∀ K : Act → World → Prop, (∀ a w, wpList P ops Q rest a w → K a w) → o.wp P a w K Q) : wpList P ops Q (o :: rest) a w :=
 wpList_step fun K hK => by simp only [hw, if_true]; exact h K hK
/-- A load of many cells, behind a guard that is met. -/
theorem wpList_load_met (hw : Region.wanted o (yielded ops a.tmps) = true) (ty : TypeId) (x : Operand) (ho : o.op = .load ty x) (b of : Nat) (hx : a.eval x = .pointer (some ⟨b, of, none⟩)) (cs : List Value) (d : TypeDesc) (hc : w.rangeAt b of cs)
  (hu : P.underlying ty = some d) (hd : d.isRow = true) (hi : (P.info? ty).map (·.size) = some cs.length)
  (h : wpList P ops Q rest (a.put o.dst (.agg cs.toArray)) w) : wpList P ops Q (o :: rest) a w := by
 refine wpList_met hw fun K hK => ?_
 unfold Oper.wp execOp
 simp only [ho, hx, Instr.loadAt, Instr.sureAddr, Sem.run_bind, Sem.run_pure, Result.andThen_ok, run_loadVar_mid w b of ty cs d hc hu hd hi]
 exact hK _ _ h
end
theorem rangeAt_app {w : World} {b o : Nat} {xs ys : List Value} (h : w.rangeAt b o (xs ++ ys)) : w.rangeAt b o xs ∧ w.rangeAt b (o + xs.length) ys := by
 refine ⟨fun j u hj => h j u ?_, fun j u hj => ?_⟩
 ·rw [List.getElem?_append_left (List.getElem?_eq_some_iff.1 hj).1]; exact hj
 ·have := h (xs.length + j) u (by rw [List.getElem?_append_right (by omega)]; rw [Nat.add_sub_cancel_left]; exact hj)
  rw [Nat.add_assoc]; exact this
theorem range_one {w : World} {b o : Nat} {x : Value} {xs : List Value} (h : w.rangeAt b o (x :: xs)) : w.cell? ⟨b, o, none⟩ = some x ∧ w.rangeAt b (o + 1) xs := by
 refine ⟨?_, fun j u hj => ?_⟩
 ·have := h 0 x rfl; simpa using this
 ·have := h (j + 1) u (by simpa using hj)
  rw [Nat.add_assoc, Nat.add_comm 1 j]; exact this
def opL (o : Op0) (sl : Value) : List Value := [.int .i64 o.k, .int .u64 (o.vol : Int), .int .u64 (o.to : Int), .int .i64 o.size, .int .i64 o.pl, .int .i64 o.count, sl]
theorem opL_len (o : Op0) (sl : Value) : (opL o sl).length = 7 := rfl
def stL (x : St0) : List Value := [.int .u64 (x.epoch : Int), .int .u64 (x.last : Int), .int .u64 (x.seq : Int), .int .u64 (x.bl : Int), .int .u64 (x.bs : Int), .bool x.marked]
def itL (i : It0) (sl : Value) : List Value := .int .i64 i.k :: .int .u64 (i.vol : Int) :: .int .i64 i.size :: .int .i64 i.blk :: (bV i.data ++ (opL i.op sl ++ [.int .i64 i.blocks]))
def msL (m : Ms0) (s1 s2 : Value) : List Value :=
 .int .i64 m.k :: .int .u64 (m.epoch : Int) :: (stL m.st ++ (.bool m.lead :: .int .u64 (m.seq : Int) :: (opL m.op s1 ++ (.int .i64 m.blocks :: .int .u64 (m.num : Int) :: .int .i64 m.fro :: ([.int .u64 (m.ne : Int), .int .u64 (m.ns : Int)] ++ itL m.item s2)))))
theorem itL_len {i : It0} {sl : Value} (h : i.data.length = 256) : (itL i sl).length = 268 := by
 simp [itL, opL_len, bV_len, h]
theorem msL_len {m : Ms0} {s1 s2 : Value} (h : m.item.data.length = 256) : (msL m s1 s2).length = 290 := by
 simp [msL, itL_len h, opL_len, stL]
theorem opL_one {o : Op0} {sl : Value} (h : sl.oneCell' = true) : ∀ u ∈ opL o sl, u.oneCell' = true := by
 intro u hu
 simp only [opL, List.mem_cons, List.not_mem_nil, or_false] at hu
 rcases hu with rfl | rfl | rfl | rfl | rfl | rfl | rfl <;> first | rfl | exact h
theorem itL_one {i : It0} {sl : Value} (h : sl.oneCell' = true) : ∀ u ∈ itL i sl, u.oneCell' = true := by
 intro u hu
 simp only [itL, List.mem_cons, List.mem_append, List.not_mem_nil, or_false] at hu
 rcases hu with rfl | rfl | rfl | rfl | hu | hu | rfl
 ·rfl
 ·rfl
 ·rfl
 ·rfl
 ·exact bV_one _ u hu
 ·exact opL_one h u hu
 ·rfl
theorem msL_one {m : Ms0} {s1 s2 : Value} (h1 : s1.oneCell' = true) (h2 : s2.oneCell' = true) : ∀ u ∈ msL m s1 s2, u.oneCell' = true := by
 intro u hu
 simp only [msL, stL, List.mem_cons, List.mem_append, List.not_mem_nil, or_false] at hu
 rcases hu with rfl | rfl | (rfl | rfl | rfl | rfl | rfl | rfl) | rfl | rfl | hu | rfl | rfl | rfl | (rfl | rfl) | hu
 all_goals first | rfl | exact opL_one h1 u hu | exact itL_one h2 u hu
/-- An item in memory. -/
structure ItAt (W : World) (b o : Nat) (i : It0) (sl : Value) : Prop where
 c0 : W.cell? ⟨b, o, none⟩ = some (.int .i64 i.k)
 c1 : W.cell? ⟨b, o + 1, none⟩ = some (.int .u64 (i.vol : Int))
 c2 : W.cell? ⟨b, o + 2, none⟩ = some (.int .i64 i.size)
 c3 : W.cell? ⟨b, o + 3, none⟩ = some (.int .i64 i.blk)
 r4 : W.rangeAt b (o + 4) (bV i.data)
 r260 : W.rangeAt b (o + 260) (opL i.op sl)
 c267 : W.cell? ⟨b, o + 267, none⟩ = some (.int .i64 i.blocks)
theorem it_at {W : World} {b o : Nat} {i : It0} {sl : Value} (h : W.rangeAt b o (itL i sl)) (hd : i.data.length = 256) : ItAt W b o i sl := by
 obtain ⟨c0, h⟩ := range_one h
 obtain ⟨c1, h⟩ := range_one h
 obtain ⟨c2, h⟩ := range_one h
 obtain ⟨c3, h⟩ := range_one h
 obtain ⟨r4, h⟩ := rangeAt_app h
 rw [bV_len, hd] at h
 obtain ⟨r5, h⟩ := rangeAt_app h
 rw [opL_len] at h
 obtain ⟨c6, _⟩ := range_one h
 exact ⟨c0, c1, c2, c3, r4, r5, c6⟩
/-- A message in memory. -/
structure MsAt (W : World) (b : Nat) (m : Ms0) (s1 s2 : Value) : Prop where
 c0 : W.cell? ⟨b, 0, none⟩ = some (.int .i64 m.k)
 c1 : W.cell? ⟨b, 1, none⟩ = some (.int .u64 (m.epoch : Int))
 r2 : W.rangeAt b 2 (stL m.st)
 c8 : W.cell? ⟨b, 8, none⟩ = some (.bool m.lead)
 c9 : W.cell? ⟨b, 9, none⟩ = some (.int .u64 (m.seq : Int))
 r10 : W.rangeAt b 10 (opL m.op s1)
 c17 : W.cell? ⟨b, 17, none⟩ = some (.int .i64 m.blocks)
 c18 : W.cell? ⟨b, 18, none⟩ = some (.int .u64 (m.num : Int))
 c19 : W.cell? ⟨b, 19, none⟩ = some (.int .i64 m.fro)
 c20 : W.cell? ⟨b, 20, none⟩ = some (.int .u64 (m.ne : Int))
 c21 : W.cell? ⟨b, 21, none⟩ = some (.int .u64 (m.ns : Int))
 r22 : W.rangeAt b 22 (itL m.item s2)
theorem ms_at {W : World} {b : Nat} {m : Ms0} {s1 s2 : Value} (h : W.rangeAt b 0 (msL m s1 s2)) : MsAt W b m s1 s2 := by
 obtain ⟨c0, h⟩ := range_one h
 obtain ⟨c1, h⟩ := range_one h
 obtain ⟨r2, h⟩ := rangeAt_app h
 obtain ⟨c8, h⟩ := range_one h
 obtain ⟨c9, h⟩ := range_one h
 obtain ⟨r10, h⟩ := rangeAt_app h
 obtain ⟨c17, h⟩ := range_one h
 obtain ⟨c18, h⟩ := range_one h
 obtain ⟨c19, h⟩ := range_one h
 obtain ⟨r20, h⟩ := rangeAt_app h
 obtain ⟨c20, r20⟩ := range_one r20
 obtain ⟨c21, _⟩ := range_one r20
 exact ⟨c0, c1, r2, c8, c9, r10, c17, c18, c19, c20, c21, h⟩
theorem infoIt : (Tryz.prog.info? 78).map (·.size) = some 268 := by kernel_rfl
theorem infoMs : (Tryz.prog.info? 80).map (·.size) = some 290 := by kernel_rfl
theorem infoSt : (Tryz.prog.info? 67).map (·.size) = some 6 := by kernel_rfl
theorem infoNa : (Tryz.prog.info? 73).map (·.size) = some 2 := by kernel_rfl
theorem infoBk : (Tryz.prog.info? 76).map (·.size) = some 256 := by kernel_rfl
/-- Blocks by value, held against one another. -/
theorem eql_blocks (w : World) (xs ys : List UInt8) (hx : xs.length = 256) (hy : ys.length = 256) : (binOp .eql 76 (.agg (bV xs).toArray) (.agg (bV ys).toArray)).run Tryz.prog w = .ok (.bool (xs == ys)) w := by
 obtain ⟨i, hi⟩ := Option.isSome_iff_exists.1 (show (Tryz.prog.info? 5).isSome = true by kernel_rfl)
 exact run_eql_bytes w Tryz.underlying76 Tryz.underlying5 hi (by kernel_rfl) xs ys hx hy
set_option maxRecDepth 100000 in
set_option maxHeartbeats 6400000 in
theorem sameI_any (a b : It0) (sa sb : Value) (w : World) (hda : a.data.length = 256) (hdb : b.data.length = 256) (ha : Rd w 1 sa a.op.data.length (bV a.op.data)) (hb : Rd w 1 sb b.op.data.length (bV b.op.data)) :
  Calls Tryz.prog 93 #[.agg (itL a sa).toArray, .agg (itL b sb).toArray] w fun e w' => e = .returned (.bool (itEq a b)) ∧ Below w.heap.size w w' := by
 have HRA := Lib.hid ha
 have HRB := Lib.hid hb
 obtain ⟨AL, hAL⟩ : ∃ L, itL a sa = L := ⟨_, rfl⟩
 obtain ⟨BL, hBL⟩ : ∃ L, itL b sb = L := ⟨_, rfl⟩
 have HBB : Hid (Below w.heap.size w ((w.alloc (.cells AL.toArray 78)).alloc (.cells BL.toArray 78))) := Lib.hid (balloc (balloc (Below.refl _ _) _) _)
 have HAt : Hid (∀ W, Below (w.heap.size + 2) ((w.alloc (.cells AL.toArray 78)).alloc (.cells BL.toArray 78)) W → ItAt W w.heap.size 0 a sa ∧ ItAt W (w.heap.size + 1) 0 b sb) := Lib.hid (fun W hW => by
  have h2 := heap_alloc_new (w.alloc (.cells AL.toArray 78)) (.cells BL.toArray 78)
  rw [World.size_alloc] at h2
  refine ⟨it_at (fun j u hj => ?_) hda, it_at (fun j u hj => ?_) hdb⟩
  ·rw [Nat.zero_add]
   exact cellIs ((hW.block w.heap.size (by omega)).trans ((Below.heap_alloc _ _ _ (by simp)).trans (heap_alloc_new w _))) (by rw [hAL] at hj; simpa using hj)
  ·rw [Nat.zero_add]
   exact cellIs ((hW.block (w.heap.size + 1) (by omega)).trans h2) (by rw [hBL] at hj; simpa using hj))
 have HA0 := Lib.hid (HAt.out _ (Below.refl _ _)).1
 have HB0 := Lib.hid (HAt.out _ (Below.refl _ _)).2
 have HQ := Lib.hid (And.intro hda hdb)
 rw [hAL, hBL]
 clear ha hb hAL hBL hda hdb
 obtain ⟨k1, v1, z1, b1, d1, o1, n1⟩ := a
 obtain ⟨k2, v2, z2, b2, d2, o2, n2⟩ := b
 have a0 := HA0.out.c0
 have a1 := HA0.out.c1
 have a2 := HA0.out.c2
 have a3 := HA0.out.c3
 have e0 := HB0.out.c0
 have e1 := HB0.out.c1
 have e2 := HB0.out.c2
 have e3 := HB0.out.c3
 dsimp only at a0 a1 a2 a3 e0 e1 e2 e3
 rw [Nat.zero_add] at a1 a2 a3 e1 e2 e3
 obtain ⟨DA, hDA⟩ : ∃ D, bV d1 = D := ⟨_, rfl⟩
 obtain ⟨DB, hDB⟩ : ∃ D, bV d2 = D := ⟨_, rfl⟩
 have HDL : Hid ((Tryz.prog.info? 76).map (·.size) = some DA.length ∧ (Tryz.prog.info? 76).map (·.size) = some DB.length) := Lib.hid (by
  rw [← hDA, ← hDB, bV_len, bV_len]
  have h1 : d1.length = 256 := HQ.out.1
  have h2 : d2.length = 256 := HQ.out.2
  rw [h1, h2]
  exact ⟨infoBk, infoBk⟩)
 have heq := fun W => eql_blocks W d1 d2 HQ.out.1 HQ.out.2
 rw [hDA, hDB] at heq
 have HR4 : Hid (((w.alloc (.cells AL.toArray 78)).alloc (.cells BL.toArray 78)).rangeAt w.heap.size 4 DA ∧ ((w.alloc (.cells AL.toArray 78)).alloc (.cells BL.toArray 78)).rangeAt (w.heap.size + 1) 4 DB) := Lib.hid (by
  have r1 := HA0.out.r4
  have r2 := HB0.out.r4
  rw [Nat.zero_add] at r1 r2
  rw [← hDA, ← hDB]
  exact ⟨r1, r2⟩)
 have HDA := Lib.hid hDA
 have HDB := Lib.hid hDB
 clear hDA hDB
 by_cases h1 : k1 = k2
 rotate_left
 ·have HE := Lib.hid (itEq_no (fun e : (⟨k1, v1, z1, b1, d1, o1, n1⟩ : It0) = ⟨k2, v2, z2, b2, d2, o2, n2⟩ => h1 (by injection e)))
  have g1 := bneI h1
  clear h1
  go_enter Tryz.func93, Tryz.ntmps93
  go_wp2_with (first
   | (refine wpList_load_met (by kernel_rfl) 76 _ rfl w.heap.size 4 rfl DA _ HR4.out.1 Tryz.underlying76 rfl HDL.out.1 ?_)
   | (refine wpList_load_met (by kernel_rfl) 76 _ rfl (w.heap.size + 1) 4 rfl DB _ HR4.out.2 Tryz.underlying76 rfl HDL.out.2 ?_))
  go_ret
  exact ⟨by rw [HE.out]; rfl, HBB.out⟩
 subst h1
 have g1 := beqI (rfl : k1 = k1)
 by_cases h2 : v1 = v2
 rotate_left
 ·have HE := Lib.hid (itEq_no (fun e : (⟨k1, v1, z1, b1, d1, o1, n1⟩ : It0) = ⟨k1, v2, z2, b2, d2, o2, n2⟩ => h2 (by injection e)))
  have g2 : ((v1 : Int) == (v2 : Int)) = false := bneI (by omega)
  clear h2
  go_enter Tryz.func93, Tryz.ntmps93
  go_wp2_with (first
   | (refine wpList_load_met (by kernel_rfl) 76 _ rfl w.heap.size 4 rfl DA _ HR4.out.1 Tryz.underlying76 rfl HDL.out.1 ?_)
   | (refine wpList_load_met (by kernel_rfl) 76 _ rfl (w.heap.size + 1) 4 rfl DB _ HR4.out.2 Tryz.underlying76 rfl HDL.out.2 ?_))
  go_ret
  exact ⟨by rw [HE.out]; rfl, HBB.out⟩
 subst h2
 have g2 := beqI (rfl : (v1 : Int) = v1)
 by_cases h3 : z1 = z2
 rotate_left
 ·have HE := Lib.hid (itEq_no (fun e : (⟨k1, v1, z1, b1, d1, o1, n1⟩ : It0) = ⟨k1, v1, z2, b2, d2, o2, n2⟩ => h3 (by injection e)))
  have g3 := bneI h3
  clear h3
  go_enter Tryz.func93, Tryz.ntmps93
  go_wp2_with (first
   | (refine wpList_load_met (by kernel_rfl) 76 _ rfl w.heap.size 4 rfl DA _ HR4.out.1 Tryz.underlying76 rfl HDL.out.1 ?_)
   | (refine wpList_load_met (by kernel_rfl) 76 _ rfl (w.heap.size + 1) 4 rfl DB _ HR4.out.2 Tryz.underlying76 rfl HDL.out.2 ?_))
  go_ret
  exact ⟨by rw [HE.out]; rfl, HBB.out⟩
 subst h3
 have g3 := beqI (rfl : z1 = z1)
 by_cases h4 : b1 = b2
 rotate_left
 ·have HE := Lib.hid (itEq_no (fun e : (⟨k1, v1, z1, b1, d1, o1, n1⟩ : It0) = ⟨k1, v1, z1, b2, d2, o2, n2⟩ => h4 (by injection e)))
  have g4 := bneI h4
  clear h4
  go_enter Tryz.func93, Tryz.ntmps93
  go_wp2_with (first
   | (refine wpList_load_met (by kernel_rfl) 76 _ rfl w.heap.size 4 rfl DA _ HR4.out.1 Tryz.underlying76 rfl HDL.out.1 ?_)
   | (refine wpList_load_met (by kernel_rfl) 76 _ rfl (w.heap.size + 1) 4 rfl DB _ HR4.out.2 Tryz.underlying76 rfl HDL.out.2 ?_))
  go_ret
  exact ⟨by rw [HE.out]; rfl, HBB.out⟩
 subst h4
 have g4 := beqI (rfl : b1 = b1)
 by_cases h5 : d1 = d2
 rotate_left
 ·have HE := Lib.hid (itEq_no (fun e : (⟨k1, v1, z1, b1, d1, o1, n1⟩ : It0) = ⟨k1, v1, z1, b1, d2, o2, n2⟩ => h5 (by injection e)))
  rw [beq_eq_false_iff_ne.2 h5] at heq
  clear h5
  go_enter Tryz.func93, Tryz.ntmps93
  go_wp2_with (first
   | (refine wpList_load_met (by kernel_rfl) 76 _ rfl w.heap.size 4 rfl DA _ HR4.out.1 Tryz.underlying76 rfl HDL.out.1 ?_)
   | (refine wpList_load_met (by kernel_rfl) 76 _ rfl (w.heap.size + 1) 4 rfl DB _ HR4.out.2 Tryz.underlying76 rfl HDL.out.2 ?_))
  go_ret
  exact ⟨by rw [HE.out]; rfl, HBB.out⟩
 rw [beq_iff_eq.2 h5] at heq
 subst h5
 have HR5 : Hid (((w.alloc (.cells AL.toArray 78)).alloc (.cells BL.toArray 78)).rangeAt w.heap.size 260 (opL o1 sa) ∧ ((w.alloc (.cells AL.toArray 78)).alloc (.cells BL.toArray 78)).rangeAt (w.heap.size + 1) 260 (opL o2 sb)) := Lib.hid (by
  have r1 := HA0.out.r260
  have r2 := HB0.out.r260
  rw [Nat.zero_add] at r1 r2
  exact ⟨r1, r2⟩)
 have HIO1 : Hid ((Tryz.prog.info? 70).map (·.size) = some (opL o1 sa).length) := Lib.hid infoOp
 have HIO2 : Hid ((Tryz.prog.info? 70).map (·.size) = some (opL o2 sb).length) := Lib.hid infoOp
 have CS : Hid (∀ W, Below w.heap.size w W → Calls Tryz.prog 92 #[.agg (opL o1 sa).toArray, .agg (opL o2 sb).toArray] W fun e w' => e = .returned (.bool (opEq o1 o2)) ∧ Below W.heap.size W w') := Lib.hid (fun W hW => same_any o1 o2 sa sb W (HRA.out.below hW) (HRB.out.below hW))
 have HEQ : Hid (itEq ⟨k1, v1, z1, b1, d1, o1, n1⟩ ⟨k1, v1, z1, b1, d1, o2, n2⟩ = (opEq o1 o2 && (n1 == n2))) := Lib.hid (by
  rw [Bool.eq_iff_iff, itEq_iff, Bool.and_eq_true, opEq_iff, beq_iff_eq]
  constructor
  ·intro h; injection h with _ _ _ _ _ h1 h2; exact ⟨h1, h2⟩
  ·rintro ⟨rfl, rfl⟩; rfl)
 obtain ⟨OA, hOA⟩ : ∃ O, opL o1 sa = O := ⟨_, rfl⟩
 obtain ⟨OB, hOB⟩ : ∃ O, opL o2 sb = O := ⟨_, rfl⟩
 rw [hOA] at HR5 HIO1 CS
 rw [hOB] at HR5 HIO2 CS
 clear hOA hOB
 go_enter Tryz.func93, Tryz.ntmps93
 go_wp2_with (first
  | (refine wpList_load_met (by kernel_rfl) 76 _ rfl w.heap.size 4 rfl DA _ HR4.out.1 Tryz.underlying76 rfl HDL.out.1 ?_)
  | (refine wpList_load_met (by kernel_rfl) 76 _ rfl (w.heap.size + 1) 4 rfl DB _ HR4.out.2 Tryz.underlying76 rfl HDL.out.2 ?_)
  | (refine wpList_load_met (by kernel_rfl) 70 _ rfl w.heap.size 260 rfl OA _ HR5.out.1 Tryz.underlying70 rfl HIO1.out ?_)
  | (refine wpList_load_met (by kernel_rfl) 70 _ rfl (w.heap.size + 1) 260 rfl OB _ HR5.out.2 Tryz.underlying70 rfl HIO2.out ?_))
 refine (CS.out _ HBB.out).mono ?_
 rintro e w1 ⟨rfl, hb1⟩
 have HF := Lib.hid (bthen HBB.out hb1)
 have HAt1 := Lib.hid (HAt.out w1 (by simpa using hb1))
 have a6 := HAt1.out.1.c267
 have e6 := HAt1.out.2.c267
 dsimp only at a6 e6
 rw [Nat.zero_add] at a6 e6
 clear hb1 heq a0 a1 a2 a3 e0 e1 e2 e3
 generalize opEq o1 o2 = q at *
 cases q with
 | false =>
  go_wp2_with fail
  go_ret
  exact ⟨by rw [HEQ.out]; rfl, HF.out⟩
 | true =>
  go_wp2_with fail
  go_ret
  exact ⟨by rw [HEQ.out]; rfl, HF.out⟩
end Go.Proofs.YtgkelbdgdhkeoaaGreat
