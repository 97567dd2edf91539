/- The reference's SameItem, walked. (Printed by msg1.py.) -/
import Derived.Test.YtgkelbdgdhkeoaaGreatPMsg1
namespace Go.Proofs.YtgkelbdgdhkeoaaGreat
open Go.RowKit
set_option linter.unusedVariables false
set_option linter.unusedSimpArgs false
open Wire Cmd
set_option maxRecDepth 100000 in
set_option maxHeartbeats 6400000 in
theorem rsameI_any (a b : It0) (sa sb : Value) (w : World) (hda : a.data.length = 256) (hdb : b.data.length = 256) (ha : Rd w 1 sa a.op.data.length (bV a.op.data)) (hb : Rd w 1 sb b.op.data.length (bV b.op.data)) :
  Calls Tryz.prog 80 #[.agg (itL a sa).toArray, .agg (itL b sb).toArray] w fun e w' => e = .returned (.bool (itEq a b)) ∧ Below w.heap.size w w' := by
 have HRA := Lib.hid ha
 have HRB := Lib.hid hb
 obtain ⟨AL, hAL⟩ : ∃ L, itL a sa = L := ⟨_, rfl⟩
 obtain ⟨BL, hBL⟩ : ∃ L, itL b sb = L := ⟨_, rfl⟩
 have HBB : Hid (Below w.heap.size w ((w.alloc (.cells AL.toArray 78)).alloc (.cells BL.toArray 78))) := Lib.hid (balloc (balloc (Below.refl _ _) _) _)
 have HAt : Hid (∀ W, Below (w.heap.size + 2) ((w.alloc (.cells AL.toArray 78)).alloc (.cells BL.toArray 78)) W → ItAt W w.heap.size 0 a sa ∧ ItAt W (w.heap.size + 1) 0 b sb) := Lib.hid (fun W hW => by
  have h2 := heap_alloc_new (w.alloc (.cells AL.toArray 78)) (.cells BL.toArray 78)
  rw [World.size_alloc] at h2
  refine ⟨it_at (fun j u hj => ?_) hda, it_at (fun j u hj => ?_) hdb⟩
  ·rw [Nat.zero_add]
   exact cellIs ((hW.block w.heap.size (by omega)).trans ((Below.heap_alloc _ _ _ (by simp)).trans (heap_alloc_new w _))) (by rw [hAL] at hj; simpa using hj)
  ·rw [Nat.zero_add]
   exact cellIs ((hW.block (w.heap.size + 1) (by omega)).trans h2) (by rw [hBL] at hj; simpa using hj))
 have HA0 := Lib.hid (HAt.out _ (Below.refl _ _)).1
 have HB0 := Lib.hid (HAt.out _ (Below.refl _ _)).2
 have HQ := Lib.hid (And.intro hda hdb)
 rw [hAL, hBL]
 clear ha hb hAL hBL hda hdb
 obtain ⟨k1, v1, z1, b1, d1, o1, n1⟩ := a
 obtain ⟨k2, v2, z2, b2, d2, o2, n2⟩ := b
 have a0 := HA0.out.c0
 have a1 := HA0.out.c1
 have a2 := HA0.out.c2
 have a3 := HA0.out.c3
 have e0 := HB0.out.c0
 have e1 := HB0.out.c1
 have e2 := HB0.out.c2
 have e3 := HB0.out.c3
 dsimp only at a0 a1 a2 a3 e0 e1 e2 e3
 rw [Nat.zero_add] at a1 a2 a3 e1 e2 e3
 obtain ⟨DA, hDA⟩ : ∃ D, bV d1 = D := ⟨_, rfl⟩
 obtain ⟨DB, hDB⟩ : ∃ D, bV d2 = D := ⟨_, rfl⟩
 have HDL : Hid ((Tryz.prog.info? 76).map (·.size) = some DA.length ∧ (Tryz.prog.info? 76).map (·.size) = some DB.length) := Lib.hid (by
  rw [← hDA, ← hDB, bV_len, bV_len]
  have h1 : d1.length = 256 := HQ.out.1
  have h2 : d2.length = 256 := HQ.out.2
  rw [h1, h2]
  exact ⟨infoBk, infoBk⟩)
 have heq := fun W => eql_blocks W d1 d2 HQ.out.1 HQ.out.2
 rw [hDA, hDB] at heq
 have HR4 : Hid (((w.alloc (.cells AL.toArray 78)).alloc (.cells BL.toArray 78)).rangeAt w.heap.size 4 DA ∧ ((w.alloc (.cells AL.toArray 78)).alloc (.cells BL.toArray 78)).rangeAt (w.heap.size + 1) 4 DB) := Lib.hid (by
  have r1 := HA0.out.r4
  have r2 := HB0.out.r4
  rw [Nat.zero_add] at r1 r2
  rw [← hDA, ← hDB]
  exact ⟨r1, r2⟩)
 have HDA := Lib.hid hDA
 have HDB := Lib.hid hDB
 clear hDA hDB
 by_cases h1 : k1 = k2
 rotate_left
 ·have HE := Lib.hid (itEq_no (fun e : (⟨k1, v1, z1, b1, d1, o1, n1⟩ : It0) = ⟨k2, v2, z2, b2, d2, o2, n2⟩ => h1 (by injection e)))
  have g1 := bneI h1
  clear h1
  go_enter Tryz.func80, Tryz.ntmps80
  go_wp2_with (first
   | (refine wpList_load_met (by kernel_rfl) 76 _ rfl w.heap.size 4 rfl DA _ HR4.out.1 Tryz.underlying76 rfl HDL.out.1 ?_)
   | (refine wpList_load_met (by kernel_rfl) 76 _ rfl (w.heap.size + 1) 4 rfl DB _ HR4.out.2 Tryz.underlying76 rfl HDL.out.2 ?_))
  go_ret
  exact ⟨by rw [HE.out]; rfl, HBB.out⟩
 subst h1
 have g1 := beqI (rfl : k1 = k1)
 by_cases h2 : v1 = v2
 rotate_left
 ·have HE := Lib.hid (itEq_no (fun e : (⟨k1, v1, z1, b1, d1, o1, n1⟩ : It0) = ⟨k1, v2, z2, b2, d2, o2, n2⟩ => h2 (by injection e)))
  have g2 : ((v1 : Int) == (v2 : Int)) = false := bneI (by omega)
  clear h2
  go_enter Tryz.func80, Tryz.ntmps80
  go_wp2_with (first
   | (refine wpList_load_met (by kernel_rfl) 76 _ rfl w.heap.size 4 rfl DA _ HR4.out.1 Tryz.underlying76 rfl HDL.out.1 ?_)
   | (refine wpList_load_met (by kernel_rfl) 76 _ rfl (w.heap.size + 1) 4 rfl DB _ HR4.out.2 Tryz.underlying76 rfl HDL.out.2 ?_))
  go_ret
  exact ⟨by rw [HE.out]; rfl, HBB.out⟩
 subst h2
 have g2 := beqI (rfl : (v1 : Int) = v1)
 by_cases h3 : z1 = z2
 rotate_left
 ·have HE := Lib.hid (itEq_no (fun e : (⟨k1, v1, z1, b1, d1, o1, n1⟩ : It0) = ⟨k1, v1, z2, b2, d2, o2, n2⟩ => h3 (by injection e)))
  have g3 := bneI h3
  clear h3
  go_enter Tryz.func80, Tryz.ntmps80
  go_wp2_with (first
   | (refine wpList_load_met (by kernel_rfl) 76 _ rfl w.heap.size 4 rfl DA _ HR4.out.1 Tryz.underlying76 rfl HDL.out.1 ?_)
   | (refine wpList_load_met (by kernel_rfl) 76 _ rfl (w.heap.size + 1) 4 rfl DB _ HR4.out.2 Tryz.underlying76 rfl HDL.out.2 ?_))
  go_ret
  exact ⟨by rw [HE.out]; rfl, HBB.out⟩
 subst h3
 have g3 := beqI (rfl : z1 = z1)
 by_cases h4 : b1 = b2
 rotate_left
 ·have HE := Lib.hid (itEq_no (fun e : (⟨k1, v1, z1, b1, d1, o1, n1⟩ : It0) = ⟨k1, v1, z1, b2, d2, o2, n2⟩ => h4 (by injection e)))
  have g4 := bneI h4
  clear h4
  go_enter Tryz.func80, Tryz.ntmps80
  go_wp2_with (first
   | (refine wpList_load_met (by kernel_rfl) 76 _ rfl w.heap.size 4 rfl DA _ HR4.out.1 Tryz.underlying76 rfl HDL.out.1 ?_)
   | (refine wpList_load_met (by kernel_rfl) 76 _ rfl (w.heap.size + 1) 4 rfl DB _ HR4.out.2 Tryz.underlying76 rfl HDL.out.2 ?_))
  go_ret
  exact ⟨by rw [HE.out]; rfl, HBB.out⟩
 subst h4
 have g4 := beqI (rfl : b1 = b1)
 by_cases h5 : d1 = d2
 rotate_left
 ·have HE := Lib.hid (itEq_no (fun e : (⟨k1, v1, z1, b1, d1, o1, n1⟩ : It0) = ⟨k1, v1, z1, b1, d2, o2, n2⟩ => h5 (by injection e)))
  rw [beq_eq_false_iff_ne.2 h5] at heq
  clear h5
  go_enter Tryz.func80, Tryz.ntmps80
  go_wp2_with (first
   | (refine wpList_load_met (by kernel_rfl) 76 _ rfl w.heap.size 4 rfl DA _ HR4.out.1 Tryz.underlying76 rfl HDL.out.1 ?_)
   | (refine wpList_load_met (by kernel_rfl) 76 _ rfl (w.heap.size + 1) 4 rfl DB _ HR4.out.2 Tryz.underlying76 rfl HDL.out.2 ?_))
  go_ret
  exact ⟨by rw [HE.out]; rfl, HBB.out⟩
 rw [beq_iff_eq.2 h5] at heq
 subst h5
 have HR5 : Hid (((w.alloc (.cells AL.toArray 78)).alloc (.cells BL.toArray 78)).rangeAt w.heap.size 260 (opL o1 sa) ∧ ((w.alloc (.cells AL.toArray 78)).alloc (.cells BL.toArray 78)).rangeAt (w.heap.size + 1) 260 (opL o2 sb)) := Lib.hid (by
  have r1 := HA0.out.r260
  have r2 := HB0.out.r260
  rw [Nat.zero_add] at r1 r2
  exact ⟨r1, r2⟩)
 have HIO1 : Hid ((Tryz.prog.info? 70).map (·.size) = some (opL o1 sa).length) := Lib.hid infoOp
 have HIO2 : Hid ((Tryz.prog.info? 70).map (·.size) = some (opL o2 sb).length) := Lib.hid infoOp
 have CS : Hid (∀ W, Below w.heap.size w W → Calls Tryz.prog 98 #[.agg (opL o1 sa).toArray, .agg (opL o2 sb).toArray] W fun e w' => e = .returned (.bool (opEq o1 o2)) ∧ Below W.heap.size W w') := Lib.hid (fun W hW => rsame_any o1 o2 sa sb W (HRA.out.below hW) (HRB.out.below hW))
 have HEQ : Hid (itEq ⟨k1, v1, z1, b1, d1, o1, n1⟩ ⟨k1, v1, z1, b1, d1, o2, n2⟩ = (opEq o1 o2 && (n1 == n2))) := Lib.hid (by
  rw [Bool.eq_iff_iff, itEq_iff, Bool.and_eq_true, opEq_iff, beq_iff_eq]
  constructor
  ·intro h; injection h with _ _ _ _ _ h1 h2; exact ⟨h1, h2⟩
  ·rintro ⟨rfl, rfl⟩; rfl)
 obtain ⟨OA, hOA⟩ : ∃ O, opL o1 sa = O := ⟨_, rfl⟩
 obtain ⟨OB, hOB⟩ : ∃ O, opL o2 sb = O := ⟨_, rfl⟩
 rw [hOA] at HR5 HIO1 CS
 rw [hOB] at HR5 HIO2 CS
 clear hOA hOB
 go_enter Tryz.func80, Tryz.ntmps80
 go_wp2_with (first
  | (refine wpList_load_met (by kernel_rfl) 76 _ rfl w.heap.size 4 rfl DA _ HR4.out.1 Tryz.underlying76 rfl HDL.out.1 ?_)
  | (refine wpList_load_met (by kernel_rfl) 76 _ rfl (w.heap.size + 1) 4 rfl DB _ HR4.out.2 Tryz.underlying76 rfl HDL.out.2 ?_)
  | (refine wpList_load_met (by kernel_rfl) 70 _ rfl w.heap.size 260 rfl OA _ HR5.out.1 Tryz.underlying70 rfl HIO1.out ?_)
  | (refine wpList_load_met (by kernel_rfl) 70 _ rfl (w.heap.size + 1) 260 rfl OB _ HR5.out.2 Tryz.underlying70 rfl HIO2.out ?_))
 refine (CS.out _ HBB.out).mono ?_
 rintro e w1 ⟨rfl, hb1⟩
 have HF := Lib.hid (bthen HBB.out hb1)
 have HAt1 := Lib.hid (HAt.out w1 (by simpa using hb1))
 have a6 := HAt1.out.1.c267
 have e6 := HAt1.out.2.c267
 dsimp only at a6 e6
 rw [Nat.zero_add] at a6 e6
 clear hb1 heq a0 a1 a2 a3 e0 e1 e2 e3
 generalize opEq o1 o2 = q at *
 cases q with
 | false =>
  go_wp2_with fail
  go_ret
  exact ⟨by rw [HEQ.out]; rfl, HF.out⟩
 | true =>
  go_wp2_with fail
  go_ret
  exact ⟨by rw [HEQ.out]; rfl, HF.out⟩
end Go.Proofs.YtgkelbdgdhkeoaaGreat
