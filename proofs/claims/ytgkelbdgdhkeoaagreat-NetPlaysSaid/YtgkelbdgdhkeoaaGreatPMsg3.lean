/- Same, walked. (Printed by msg1.py.) -/
import Derived.Test.YtgkelbdgdhkeoaaGreatPMsg1
namespace Go.Proofs.YtgkelbdgdhkeoaaGreat
open Go.RowKit
set_option linter.unusedVariables false
set_option linter.unusedSimpArgs false
open Wire Cmd
theorem eql_na (w : World) (a b c d : Nat) : (binOp .eql 73 (.agg #[.int .u64 (a : Int), .int .u64 (b : Int)]) (.agg #[.int .u64 (c : Int), .int .u64 (d : Int)])).run Tryz.prog w = .ok (.bool (a == c && b == d)) w := by
 go_simp
 by_cases h1 : a = c <;> by_cases h2 : b = d <;> simp [h1, h2, Int.natCast_inj]
theorem st_at {W : World} {b o : Nat} {x : St0} (h : W.rangeAt b o (stL x)) : W.cell? ⟨b, o, none⟩ = some (.int .u64 (x.epoch : Int)) ∧ W.cell? ⟨b, o + 1, none⟩ = some (.int .u64 (x.last : Int)) ∧ W.cell? ⟨b, o + 2, none⟩ = some (.int .u64 (x.seq : Int)) ∧ W.cell? ⟨b, o + 3, none⟩ = some (.int .u64 (x.bl : Int)) ∧ W.cell? ⟨b, o + 4, none⟩ = some (.int .u64 (x.bs : Int)) ∧ W.cell? ⟨b, o + 5, none⟩ = some (.bool x.marked) :=
 ⟨h 0 _ rfl, h 1 _ rfl, h 2 _ rfl, h 3 _ rfl, h 4 _ rfl, h 5 _ rfl⟩
theorem op_at {W : World} {b o : Nat} {x : Op0} {sl : Value} (h : W.rangeAt b o (opL x sl)) : W.cell? ⟨b, o, none⟩ = some (.int .i64 x.k) ∧ W.cell? ⟨b, o + 1, none⟩ = some (.int .u64 (x.vol : Int)) ∧ W.cell? ⟨b, o + 2, none⟩ = some (.int .u64 (x.to : Int)) ∧ W.cell? ⟨b, o + 3, none⟩ = some (.int .i64 x.size) ∧ W.cell? ⟨b, o + 4, none⟩ = some (.int .i64 x.pl) ∧ W.cell? ⟨b, o + 5, none⟩ = some (.int .i64 x.count) ∧ W.cell? ⟨b, o + 6, none⟩ = some sl :=
 ⟨h 0 _ rfl, h 1 _ rfl, h 2 _ rfl, h 3 _ rfl, h 4 _ rfl, h 5 _ rfl, h 6 _ rfl⟩
theorem eql_st (w : World) (x y : St0) : (binOp .eql 67 (.agg (stL x).toArray) (.agg (stL y).toArray)).run Tryz.prog w = .ok (.bool (stEq x y)) w := by
 obtain ⟨a1, a2, a3, a4, a5, a6⟩ := x
 obtain ⟨b1, b2, b3, b4, b5, b6⟩ := y
 have h : stEq ⟨a1, a2, a3, a4, a5, a6⟩ ⟨b1, b2, b3, b4, b5, b6⟩ = (a1 == b1 && (a2 == b2 && (a3 == b3 && (a4 == b4 && (a5 == b5 && a6 == b6))))) := by
  unfold stEq
  rw [Bool.eq_iff_iff]
  simp
 rw [h]
 unfold stL
 go_simp
 by_cases h1 : a1 = b1 <;> by_cases h2 : a2 = b2 <;> by_cases h3 : a3 = b3 <;> by_cases h4 : a4 = b4 <;> by_cases h5 : a5 = b5 <;> by_cases h6 : a6 = b6 <;> simp [h1, h2, h3, h4, h5, h6, Int.natCast_inj]
set_option maxRecDepth 100000 in
set_option maxHeartbeats 12800000 in
theorem sameM_any (a b : Ms0) (sa1 sa2 sb1 sb2 : Value) (w : World) (hda : a.item.data.length = 256) (hdb : b.item.data.length = 256) (ha1 : Rd w 1 sa1 a.op.data.length (bV a.op.data)) (ha2 : Rd w 1 sa2 a.item.op.data.length (bV a.item.op.data)) (hb1 : Rd w 1 sb1 b.op.data.length (bV b.op.data)) (hb2 : Rd w 1 sb2 b.item.op.data.length (bV b.item.op.data)) :
  Calls Tryz.prog 63 #[.agg (msL a sa1 sa2).toArray, .agg (msL b sb1 sb2).toArray] w fun e w' => e = .returned (.bool (msEq a b)) ∧ Below w.heap.size w w' := by
 have CS0 : Hid (∀ W, Below w.heap.size w W → Calls Tryz.prog 92 #[.agg (opL a.op sa1).toArray, .agg (opL b.op sb1).toArray] W fun e w' => e = .returned (.bool (opEq a.op b.op)) ∧ Below W.heap.size W w') := Lib.hid (fun W hW => same_any a.op b.op sa1 sb1 W (ha1.below hW) (hb1.below hW))
 have CI0 : Hid (∀ W, Below w.heap.size w W → Calls Tryz.prog 93 #[.agg (itL a.item sa2).toArray, .agg (itL b.item sb2).toArray] W fun e w' => e = .returned (.bool (itEq a.item b.item)) ∧ Below W.heap.size W w') := Lib.hid (fun W hW => sameI_any a.item b.item sa2 sb2 W hda hdb (ha2.below hW) (hb2.below hW))
 obtain ⟨AL, hAL⟩ : ∃ L, msL a sa1 sa2 = L := ⟨_, rfl⟩
 obtain ⟨BL, hBL⟩ : ∃ L, msL b sb1 sb2 = L := ⟨_, rfl⟩
 have HBB : Hid (Below w.heap.size w ((w.alloc (.cells AL.toArray 80)).alloc (.cells BL.toArray 80))) := Lib.hid (balloc (balloc (Below.refl _ _) _) _)
 have HAt : Hid (∀ W, Below (w.heap.size + 2) ((w.alloc (.cells AL.toArray 80)).alloc (.cells BL.toArray 80)) W → MsAt W w.heap.size a sa1 sa2 ∧ MsAt W (w.heap.size + 1) b sb1 sb2) := Lib.hid (fun W hW => by
  have h2 := heap_alloc_new (w.alloc (.cells AL.toArray 80)) (.cells BL.toArray 80)
  rw [World.size_alloc] at h2
  refine ⟨ms_at (fun j u hj => ?_), ms_at (fun j u hj => ?_)⟩
  ·rw [Nat.zero_add]
   exact cellIs ((hW.block w.heap.size (by omega)).trans ((Below.heap_alloc _ _ _ (by simp)).trans (heap_alloc_new w _))) (by rw [hAL] at hj; simpa using hj)
  ·rw [Nat.zero_add]
   exact cellIs ((hW.block (w.heap.size + 1) (by omega)).trans h2) (by rw [hBL] at hj; simpa using hj))
 have HA0 := Lib.hid (HAt.out _ (Below.refl _ _)).1
 have HB0 := Lib.hid (HAt.out _ (Below.refl _ _)).2
 have HQ := Lib.hid (And.intro hda hdb)
 rw [hAL, hBL]
 clear ha1 ha2 hb1 hb2 hAL hBL hda hdb
 obtain ⟨k1, ep1, x1, l1, s1, o1, b1, n1, f1, p1, q1, i1⟩ := a
 obtain ⟨k2, ep2, x2, l2, s2, o2, b2, n2, f2, p2, q2, i2⟩ := b
 have a0 := HA0.out.c0
 have a1 := HA0.out.c1
 have a8 := HA0.out.c8
 have a9 := HA0.out.c9
 have e0 := HB0.out.c0
 have e1' := HB0.out.c1
 have e8 := HB0.out.c8
 have e9 := HB0.out.c9
 have e1 := e1'
 clear e1'
 dsimp only at a0 a1 a8 a9 e0 e1 e8 e9
 obtain ⟨a2, a3, a4, a5, a6, a7⟩ := st_at HA0.out.r2
 obtain ⟨e2, e3, e4, e5, e6, e7⟩ := st_at HB0.out.r2
 have hst := fun W => eql_st W x1 x2
 unfold stL at hst
 dsimp only at a2 a3 a4 a5 a6 a7 e2 e3 e4 e5 e6 e7
 obtain ⟨u0, u1, u2, u3, u4, u5, u6⟩ := op_at HA0.out.r10
 obtain ⟨t0, t1, t2, t3, t4, t5, t6⟩ := op_at HB0.out.r10
 dsimp only at u0 u1 u2 u3 u4 u5 u6 t0 t1 t2 t3 t4 t5 t6
 have CS := CS0
 have CI := CI0
 clear CS0 CI0
 dsimp only at CS CI
 unfold opL at CS
 by_cases h1 : k1 = k2
 rotate_left
 ·have HE := Lib.hid (msEq_no (fun e : (⟨k1, ep1, x1, l1, s1, o1, b1, n1, f1, p1, q1, i1⟩ : Ms0) = ⟨k2, ep2, x2, l2, s2, o2, b2, n2, f2, p2, q2, i2⟩ => h1 (by injection e)))
  have g1 := bneI h1
  clear h1
  go_enter Tryz.func63, Tryz.ntmps63
  go_wp2_with fail
  go_ret
  exact ⟨by rw [HE.out]; rfl, HBB.out⟩
 subst h1
 have g1 := beqI (rfl : k1 = k1)
 by_cases h2 : ep1 = ep2
 rotate_left
 ·have HE := Lib.hid (msEq_no (fun e : (⟨k1, ep1, x1, l1, s1, o1, b1, n1, f1, p1, q1, i1⟩ : Ms0) = ⟨k1, ep2, x2, l2, s2, o2, b2, n2, f2, p2, q2, i2⟩ => h2 (by injection e)))
  have g2 : ((ep1 : Int) == (ep2 : Int)) = false := bneI (by omega)
  clear h2
  go_enter Tryz.func63, Tryz.ntmps63
  go_wp2_with fail
  go_ret
  exact ⟨by rw [HE.out]; rfl, HBB.out⟩
 subst h2
 have g2 := beqI (rfl : (ep1 : Int) = ep1)
 by_cases h3 : x1 = x2
 rotate_left
 ·have HE := Lib.hid (msEq_no (fun e : (⟨k1, ep1, x1, l1, s1, o1, b1, n1, f1, p1, q1, i1⟩ : Ms0) = ⟨k1, ep1, x2, l2, s2, o2, b2, n2, f2, p2, q2, i2⟩ => h3 (by injection e)))
  simp only [stEq_no h3] at hst
  clear h3
  go_enter Tryz.func63, Tryz.ntmps63
  go_wp2_with fail
  go_ret
  exact ⟨by rw [HE.out]; rfl, HBB.out⟩
 simp only [stEq_yes h3] at hst
 subst h3
 by_cases h4 : l1 = l2
 rotate_left
 ·have HE := Lib.hid (msEq_no (fun e : (⟨k1, ep1, x1, l1, s1, o1, b1, n1, f1, p1, q1, i1⟩ : Ms0) = ⟨k1, ep1, x1, l2, s2, o2, b2, n2, f2, p2, q2, i2⟩ => h4 (by injection e)))
  have g4 : (l1 == l2) = false := by simpa using h4
  clear h4
  go_enter Tryz.func63, Tryz.ntmps63
  go_wp2_with fail
  go_ret
  exact ⟨by rw [HE.out]; rfl, HBB.out⟩
 subst h4
 have g4 : (l1 == l1) = true := by simp
 by_cases h5 : s1 = s2
 rotate_left
 ·have HE := Lib.hid (msEq_no (fun e : (⟨k1, ep1, x1, l1, s1, o1, b1, n1, f1, p1, q1, i1⟩ : Ms0) = ⟨k1, ep1, x1, l1, s2, o2, b2, n2, f2, p2, q2, i2⟩ => h5 (by injection e)))
  have g5 : ((s1 : Int) == (s2 : Int)) = false := bneI (by omega)
  clear h5
  go_enter Tryz.func63, Tryz.ntmps63
  go_wp2_with fail
  go_ret
  exact ⟨by rw [HE.out]; rfl, HBB.out⟩
 subst h5
 have g5 := beqI (rfl : (s1 : Int) = s1)
 by_cases h6 : o1 = o2
 rotate_left
 ·have HE := Lib.hid (msEq_no (fun e : (⟨k1, ep1, x1, l1, s1, o1, b1, n1, f1, p1, q1, i1⟩ : Ms0) = ⟨k1, ep1, x1, l1, s1, o2, b2, n2, f2, p2, q2, i2⟩ => h6 (by injection e)))
  simp only [opEq_no h6] at CS
  clear h6
  go_enter Tryz.func63, Tryz.ntmps63
  go_wp2_with fail
  refine (CS.out _ HBB.out).mono ?_
  rintro e w1 ⟨rfl, hb1⟩
  have HF := Lib.hid (bthen HBB.out hb1)
  have HAt1 := Lib.hid (HAt.out w1 (by simpa using hb1))
  clear hb1 u0 u1 u2 u3 u4 u5 u6 t0 t1 t2 t3 t4 t5 t6 a0 a1 a2 a3 a4 a5 a6 a7 a8 a9 e0 e1 e2 e3 e4 e5 e6 e7 e8 e9 hst
  have a17 := HAt1.out.1.c17
  have a18 := HAt1.out.1.c18
  have a19 := HAt1.out.1.c19
  have a20 := HAt1.out.1.c20
  have a21 := HAt1.out.1.c21
  have e17 := HAt1.out.2.c17
  have e18 := HAt1.out.2.c18
  have e19 := HAt1.out.2.c19
  have e20 := HAt1.out.2.c20
  have e21 := HAt1.out.2.c21
  dsimp only at a17 a18 a19 a20 a21 e17 e18 e19 e20 e21
  go_wp2_with fail
  go_ret
  exact ⟨by rw [HE.out]; rfl, HF.out⟩
 simp only [opEq_yes h6] at CS
 subst h6
 go_enter Tryz.func63, Tryz.ntmps63
 go_wp2_with fail
 refine (CS.out _ HBB.out).mono ?_
 rintro e w1 ⟨rfl, hb1⟩
 have HF := Lib.hid (bthen HBB.out hb1)
 have HAt1 := Lib.hid (HAt.out w1 (by simpa using hb1))
 clear hb1 u0 u1 u2 u3 u4 u5 u6 t0 t1 t2 t3 t4 t5 t6 a0 a1 a2 a3 a4 a5 a6 a7 a8 a9 e0 e1 e2 e3 e4 e5 e6 e7 e8 e9 hst
 have a17 := HAt1.out.1.c17
 have a18 := HAt1.out.1.c18
 have a19 := HAt1.out.1.c19
 have a20 := HAt1.out.1.c20
 have a21 := HAt1.out.1.c21
 have e17 := HAt1.out.2.c17
 have e18 := HAt1.out.2.c18
 have e19 := HAt1.out.2.c19
 have e20 := HAt1.out.2.c20
 have e21 := HAt1.out.2.c21
 dsimp only at a17 a18 a19 a20 a21 e17 e18 e19 e20 e21
 by_cases h7 : b1 = b2
 rotate_left
 ·have HE := Lib.hid (msEq_no (fun e : (⟨k1, ep1, x1, l1, s1, o1, b1, n1, f1, p1, q1, i1⟩ : Ms0) = ⟨k1, ep1, x1, l1, s1, o1, b2, n2, f2, p2, q2, i2⟩ => h7 (by injection e)))
  have g7 := bneI h7
  clear h7
  go_wp2_with fail
  go_ret
  exact ⟨by rw [HE.out]; rfl, HF.out⟩
 subst h7
 have g7 := beqI (rfl : b1 = b1)
 by_cases h8 : n1 = n2
 rotate_left
 ·have HE := Lib.hid (msEq_no (fun e : (⟨k1, ep1, x1, l1, s1, o1, b1, n1, f1, p1, q1, i1⟩ : Ms0) = ⟨k1, ep1, x1, l1, s1, o1, b1, n2, f2, p2, q2, i2⟩ => h8 (by injection e)))
  have g8 : ((n1 : Int) == (n2 : Int)) = false := bneI (by omega)
  clear h8
  go_wp2_with fail
  go_ret
  exact ⟨by rw [HE.out]; rfl, HF.out⟩
 subst h8
 have g8 := beqI (rfl : (n1 : Int) = n1)
 by_cases h9 : f1 = f2
 rotate_left
 ·have HE := Lib.hid (msEq_no (fun e : (⟨k1, ep1, x1, l1, s1, o1, b1, n1, f1, p1, q1, i1⟩ : Ms0) = ⟨k1, ep1, x1, l1, s1, o1, b1, n1, f2, p2, q2, i2⟩ => h9 (by injection e)))
  have g9 := bneI h9
  clear h9
  go_wp2_with fail
  go_ret
  exact ⟨by rw [HE.out]; rfl, HF.out⟩
 subst h9
 have g9 := beqI (rfl : f1 = f1)
 have hna := fun W => eql_na W p1 q1 p2 q2
 by_cases h10 : p1 = p2 ∧ q1 = q2
 rotate_left
 ·have HE := Lib.hid (msEq_no (fun e : (⟨k1, ep1, x1, l1, s1, o1, b1, n1, f1, p1, q1, i1⟩ : Ms0) = ⟨k1, ep1, x1, l1, s1, o1, b1, n1, f1, p2, q2, i2⟩ => h10 (by injection e with _ _ _ _ _ _ _ _ _ x1 x2 _; exact ⟨x1, x2⟩)))
  have gna : (p1 == p2 && q1 == q2) = false := by
   rw [Bool.eq_false_iff]; intro h; simp only [Bool.and_eq_true, beq_iff_eq] at h; exact h10 h
  simp only [gna] at hna
  clear h10 gna
  go_wp2_with fail
  go_ret
  exact ⟨by rw [HE.out]; rfl, HF.out⟩
 obtain ⟨h10, h11⟩ := h10
 subst h10
 subst h11
 have gna : (p1 == p1 && q1 == q1) = true := by simp
 simp only [gna] at hna
 clear gna
 have HEQ : Hid (msEq ⟨k1, ep1, x1, l1, s1, o1, b1, n1, f1, p1, q1, i1⟩ ⟨k1, ep1, x1, l1, s1, o1, b1, n1, f1, p1, q1, i2⟩ = itEq i1 i2) := Lib.hid (by
  rw [Bool.eq_iff_iff, msEq_iff, itEq_iff]
  constructor
  ·intro h; injection h
  ·rintro rfl; rfl)
 have CI1 : Hid (Calls Tryz.prog 93 #[.agg (itL i1 sa2).toArray, .agg (itL i2 sb2).toArray] w1 fun e w' => e = .returned (.bool (itEq i1 i2)) ∧ Below w1.heap.size w1 w') := Lib.hid (CI.out _ HF.out)
 have HR1 : Hid (w1.rangeAt w.heap.size 22 (itL i1 sa2) ∧ w1.rangeAt (w.heap.size + 1) 22 (itL i2 sb2)) := Lib.hid ⟨HAt1.out.1.r22, HAt1.out.2.r22⟩
 have HII : Hid ((Tryz.prog.info? 78).map (·.size) = some (itL i1 sa2).length ∧ (Tryz.prog.info? 78).map (·.size) = some (itL i2 sb2).length) := Lib.hid (by
  rw [itL_len HQ.out.1, itL_len HQ.out.2]
  exact ⟨infoIt, infoIt⟩)
 obtain ⟨IA, hIA⟩ : ∃ L, itL i1 sa2 = L := ⟨_, rfl⟩
 obtain ⟨IB, hIB⟩ : ∃ L, itL i2 sb2 = L := ⟨_, rfl⟩
 rw [hIA, hIB] at HR1 HII CI1
 clear hIA hIB
 generalize itEq i1 i2 = qq at *
 go_wp2_with (first
  | (refine wpList_load_met (by kernel_rfl) 78 _ rfl w.heap.size 22 rfl IA _ HR1.out.1 Tryz.underlying78 rfl HII.out.1 ?_)
  | (refine wpList_load_met (by kernel_rfl) 78 _ rfl (w.heap.size + 1) 22 rfl IB _ HR1.out.2 Tryz.underlying78 rfl HII.out.2 ?_))
 refine CI1.out.mono ?_
 rintro e w2 ⟨rfl, hb2⟩
 have HG := Lib.hid (bthen HF.out hb2)
 clear hb2
 go_wp2_with fail
 go_ret
 exact ⟨by rw [HEQ.out]; rfl, HG.out⟩
end Go.Proofs.YtgkelbdgdhkeoaaGreat
