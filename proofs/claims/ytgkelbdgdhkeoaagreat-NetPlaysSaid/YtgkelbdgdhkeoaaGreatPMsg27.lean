/- The reference's May of a message, walked. (Printed by wip/bin/mk27.py.) -/
import Derived.Test.YtgkelbdgdhkeoaaGreatPMsg4
import Derived.Test.YtgkelbdgdhkeoaaGreatPMsg23
import Derived.Test.YtgkelbdgdhkeoaaGreatPMsg26
namespace Go.Proofs.YtgkelbdgdhkeoaaGreat
open Go.RowKit
set_option linter.unusedVariables false
set_option linter.unusedSimpArgs false
open Wire Cmd
theorem zeroI : Tryz.zeroCells78 = (itL it0 (.slice none 0 0)).toArray := by kernel_rfl
theorem neq_st (w : World) (x : St0) : (binOp .neq 67 (.agg (stL x).toArray) (.agg #[.int .u64 0, .int .u64 0, .int .u64 0, .int .u64 0, .int .u64 0, .bool false])).run Tryz.prog w = .ok (.bool (!stEq x st0)) w := by
 obtain ⟨a1, a2, a3, a4, a5, a6⟩ := x
 have h : stEq ⟨a1, a2, a3, a4, a5, a6⟩ st0 = (a1 == 0 && (a2 == 0 && (a3 == 0 && (a4 == 0 && (a5 == 0 && a6 == false))))) := by
  unfold stEq st0
  rw [Bool.eq_iff_iff]
  simp
 rw [h]
 unfold stL
 go_simp
 by_cases h1 : a1 = 0 <;> by_cases h2 : a2 = 0 <;> by_cases h3 : a3 = 0 <;> by_cases h4 : a4 = 0 <;> by_cases h5 : a5 = 0 <;> by_cases h6 : a6 = false <;> simp [h1, h2, h3, h4, h5, h6, Int.natCast_inj]
theorem neq_na (w : World) (a b : Nat) : (binOp .neq 73 (.agg #[.int .u64 (a : Int), .int .u64 (b : Int)]) (.agg #[.int .u64 0, .int .u64 0])).run Tryz.prog w = .ok (.bool (!(a == 0 && b == 0))) w := by
 go_simp
 by_cases h1 : a = 0 <;> by_cases h2 : b = 0 <;> simp [h1, h2, Int.natCast_inj]
set_option maxRecDepth 100000 in
set_option maxHeartbeats 12800000 in
theorem rmayM_any (m : Ms0) (ok : m.Ok) (hl1 : m.op.data.length ≤ 1000000) (hl2 : m.item.op.data.length ≤ 1000000) (s1 s2 : Value) (w : World) (hd1 : Rd w 1 s1 m.op.data.length (bV m.op.data)) (hd2 : Rd w 1 s2 m.item.op.data.length (bV m.item.op.data)) :
  Calls Tryz.prog 55 #[.agg (msL m s1 s2).toArray] w fun e w' => e = .returned (.bool (mayM m)) ∧ Below w.heap.size w w' := by
 rw [← mayMR_mayM]
 have CH : ∀ (c : UInt8) (W : World), Calls Tryz.prog 43 #[.int .i64 m.k, .int .u8 (c.toNat : Int)] W fun e w' => e = .returned (.bool (hasL (nmM m.k) c)) ∧ W = w' := fun c W => hasM_any m.k c W
 have CH116 : Hid (∀ W : World, Calls Tryz.prog 43 #[.int .i64 m.k, .int .u8 116] W fun e w' => e = .returned (.bool (hasL (nmM m.k) 116)) ∧ W = w') := Lib.hid (fun W => CH 116 W)
 have CH108 : Hid (∀ W : World, Calls Tryz.prog 43 #[.int .i64 m.k, .int .u8 108] W fun e w' => e = .returned (.bool (hasL (nmM m.k) 108)) ∧ W = w') := Lib.hid (fun W => CH 108 W)
 have CH110 : Hid (∀ W : World, Calls Tryz.prog 43 #[.int .i64 m.k, .int .u8 110] W fun e w' => e = .returned (.bool (hasL (nmM m.k) 110)) ∧ W = w') := Lib.hid (fun W => CH 110 W)
 have CH115 : Hid (∀ W : World, Calls Tryz.prog 43 #[.int .i64 m.k, .int .u8 115] W fun e w' => e = .returned (.bool (hasL (nmM m.k) 115)) ∧ W = w') := Lib.hid (fun W => CH 115 W)
 have CH109 : Hid (∀ W : World, Calls Tryz.prog 43 #[.int .i64 m.k, .int .u8 109] W fun e w' => e = .returned (.bool (hasL (nmM m.k) 109)) ∧ W = w') := Lib.hid (fun W => CH 109 W)
 have CH102 : Hid (∀ W : World, Calls Tryz.prog 43 #[.int .i64 m.k, .int .u8 102] W fun e w' => e = .returned (.bool (hasL (nmM m.k) 102)) ∧ W = w') := Lib.hid (fun W => CH 102 W)
 have CH98 : Hid (∀ W : World, Calls Tryz.prog 43 #[.int .i64 m.k, .int .u8 98] W fun e w' => e = .returned (.bool (hasL (nmM m.k) 98)) ∧ W = w') := Lib.hid (fun W => CH 98 W)
 have CH111 : Hid (∀ W : World, Calls Tryz.prog 43 #[.int .i64 m.k, .int .u8 111] W fun e w' => e = .returned (.bool (hasL (nmM m.k) 111)) ∧ W = w') := Lib.hid (fun W => CH 111 W)
 have CH105 : Hid (∀ W : World, Calls Tryz.prog 43 #[.int .i64 m.k, .int .u8 105] W fun e w' => e = .returned (.bool (hasL (nmM m.k) 105)) ∧ W = w') := Lib.hid (fun W => CH 105 W)
 clear CH
 have HB0 : Hid (Below w.heap.size w (w.alloc (.cells (msL m s1 s2).toArray 80))) := Lib.hid (balloc (Below.refl _ _) _)
 have HAt : Hid (∀ X, Below (w.alloc (.cells (msL m s1 s2).toArray 80)).heap.size (w.alloc (.cells (msL m s1 s2).toArray 80)) X → MsAt X w.heap.size m s1 s2) := Lib.hid (fun X hX => ms_at (fun j u hj => by
  rw [Nat.zero_add]
  exact cellIs ((hX.block w.heap.size (by simp)).trans (heap_alloc_new w _)) (by simpa using hj)))
 have CSt : Hid (∀ W : World, Calls Tryz.prog 76 #[.agg (stL m.st).toArray] W fun e w' => e = .returned (.bool (mayS m.st)) ∧ Below W.heap.size W w') := Lib.hid (fun W => rmayS_any m.st W)
 have CN : Hid (∀ W : World, Below w.heap.size w W → Calls Tryz.prog 78 #[.agg (opL m.op s1).toArray] W fun e w' => e = .returned (.bool (opEq m.op op0)) ∧ Below W.heap.size W w') := Lib.hid (fun W hW => noOp_any m.op s1 W (hd1.below hW))
 have CO : Hid (∀ W : World, Calls Tryz.prog 77 #[.agg (opL m.op s1).toArray] W fun e w' => e = .returned (.bool (mayO m.op)) ∧ Below W.heap.size W w') := Lib.hid (fun W => by
  obtain ⟨ao, cap, rfl, _⟩ := hd1
  have := rmayO_any m.op ok.op ao cap W hl1
  rw [mayR_mayO] at this
  exact this)
 have CI : Hid (∀ W : World, Below w.heap.size w W → Calls Tryz.prog 79 #[.agg (itL m.item s2).toArray] W fun e w' => e = .returned (.bool (mayI m.item)) ∧ Below W.heap.size W w') := Lib.hid (fun W hW => rmayI_any m.item ok.item s2 W (hd2.below hW) hl2)
 have CJ : Hid (∀ W : World, Below w.heap.size w W → Calls Tryz.prog 80 #[.agg (itL m.item s2).toArray, .agg Tryz.zeroCells78] W fun e w' => e = .returned (.bool (itEq m.item it0)) ∧ Below W.heap.size W w') := Lib.hid (fun W hW => by
  rw [zeroI]
  exact rsameI_any m.item it0 s2 (.slice none 0 0) W ok.item.data List.length_replicate (hd2.below hW) (Rd.of_own (World.ownsRow_nil _ 0 5 1)))
 have HII : Hid ((Tryz.prog.info? 78).map (·.size) = some (itL m.item s2).length) := Lib.hid (by rw [itL_len ok.item.data]; exact infoIt)
 have HIO : Hid ((Tryz.prog.info? 70).map (·.size) = some (opL m.op s1).length) := Lib.hid infoOp
 have hns := fun W => neq_st W m.st
 have hnn := fun W => neq_na W m.ne m.ns
 have HR0 : Hid (mayMR (nmM m.k) m = true ↔ ((1 ≤ m.k ∧ m.k ≤ 15) ∧ (hasL (nmM m.k) 116 = true ∨ stEq m.st st0 = true) ∧ (hasL (nmM m.k) 108 = true ∨ m.lead = false) ∧ (hasL (nmM m.k) 110 = true ∨ m.num = 0) ∧ (hasL (nmM m.k) 115 = true ∨ m.seq = 0) ∧ (hasL (nmM m.k) 109 = true ∨ (m.ne == 0 && m.ns == 0) = true) ∧ mayS m.st = true ∧ (0 ≤ m.fro ∧ m.fro ≤ 2) ∧ (hasL (nmM m.k) 102 = true ∨ m.fro = 0) ∧ (0 ≤ m.blocks ∧ m.blocks ≤ 1048576) ∧ (hasL (nmM m.k) 98 = true ∨ m.blocks = 0) ∧ (if hasL (nmM m.k) 111 = true then mayO m.op else opEq m.op op0) = true ∧ (if hasL (nmM m.k) 105 = true then mayI m.item else itEq m.item it0) = true)) := Lib.hid (by
  unfold mayMR
  simp only [Bool.and_eq_true, Bool.or_eq_true, decide_eq_true_eq, beq_iff_eq, Bool.not_eq_true'])
 have HLC := Lib.hid (nmM_cases m.k)
 obtain ⟨rr, hrr⟩ : ∃ r, mayMR (nmM m.k) m = r := ⟨_, rfl⟩
 rw [hrr] at HR0 ⊢
 clear hrr
 generalize nmM m.k = l at *
 obtain ⟨W0, hW0⟩ : ∃ W, w.alloc (.cells (msL m s1 s2).toArray 80) = W := ⟨_, rfl⟩
 rw [hW0] at HB0 HAt
 have HA0 := Lib.hid (HAt.out W0 (Below.refl _ _))
 have HW0 := Lib.hid hW0
 obtain ⟨AL, hAL⟩ : ∃ L, msL m s1 s2 = L := ⟨_, rfl⟩
 rw [hAL] at hW0 ⊢
 obtain ⟨IL, hIL⟩ : ∃ L, itL m.item s2 = L := ⟨_, rfl⟩
 obtain ⟨OA, hOA⟩ : ∃ L, opL m.op s1 = L := ⟨_, rfl⟩
 rw [hIL] at CI CJ HII
 rw [hOA] at CN CO HIO
 have HOA := Lib.hid hOA
 have HIL := Lib.hid hIL
 clear ok hd1 hd2 hl1 hl2 hAL hIL hOA
 obtain ⟨k, ep, st, lead, seq, op, blocks, num, fro, ne, ns, item⟩ := m
 dsimp only at *
 have c0 := HA0.out.c0
 have c8 := HA0.out.c8
 have c9 := HA0.out.c9
 have c18 := HA0.out.c18
 have c20 := HA0.out.c20
 have c21 := HA0.out.c21
 obtain ⟨a2, a3, a4, a5, a6, a7⟩ := st_at HA0.out.r2
 dsimp only at c0 c8 c9 c18 c20 c21 a2 a3 a4 a5 a6 a7
 simp only [Nat.reduceAdd] at a2 a3 a4 a5 a6 a7
 unfold stL at hns
 unfold stL at CSt
 have HBL := HB0
 have HWS : Hid (w.heap.size < W0.heap.size) := Lib.hid (by rw [← hW0]; simp)
 obtain ⟨bE, hbE⟩ : ∃ b, stEq st st0 = b := ⟨_, rfl⟩
 obtain ⟨bN, hbN⟩ : ∃ b, (ne == 0 && ns == 0) = b := ⟨_, rfl⟩
 rw [hbE] at HR0
 simp only [hbE] at hns
 simp only [hbN] at hnn
 rw [hbN] at HR0
 clear hbE hbN HA0 HW0
 generalize mayS st = bS at *
 generalize mayO op = bO at *
 generalize opEq op op0 = bP at *
 generalize mayI item = bI at *
 generalize itEq item it0 = bJ at *
 rcases HLC.out with rfl | rfl | rfl | rfl | rfl | rfl | rfl | rfl | rfl | rfl
 ·skip
  have h116 : hasL [116, 108] 116 = true := rfl
  have h108 : hasL [116, 108] 108 = true := rfl
  have h110 : hasL [116, 108] 110 = false := rfl
  have h115 : hasL [116, 108] 115 = false := rfl
  have h109 : hasL [116, 108] 109 = false := rfl
  have h102 : hasL [116, 108] 102 = false := rfl
  have h98 : hasL [116, 108] 98 = false := rfl
  have h111 : hasL [116, 108] 111 = false := rfl
  have h105 : hasL [116, 108] 105 = false := rfl
  have HR := Lib.hid HR0.out
  simp only [h116, h108, h110, h115, h109, h102, h98, h111, h105, Bool.false_eq_true, false_or, true_or, true_and, and_true, if_true, if_false, reduceIte] at HR
  clear HLC HR0
  as_aux_lemma =>
   go_enter Tryz.func55, Tryz.ntmps55
   go_upto_region 2 with fail
   clear hW0
   by_cases k1 : k < 1
   ·have HE : Hid (rr = false) := Lib.hid (by
     rw [Bool.eq_false_iff]
     intro h
     have := HR.out.1 h
     first | (simp at this; done) | omega)
    have g1 : decide (k < 1) = true := decide_eq_true k1
    clear k1
    as_aux_lemma =>
     go_wp2_with fail
     go_ret
     exact ⟨by rw [HE.out]; rfl, HBL.out⟩
   have gk1 : decide (k < 1) = false := decide_eq_false k1
   have HQk1 := Lib.hid k1
   clear k1
   by_cases k2 : 15 < k
   ·have HE : Hid (rr = false) := Lib.hid (by
     rw [Bool.eq_false_iff]
     intro h
     have := HR.out.1 h
     first | (simp at this; done) | omega)
    have g1 : decide (15 < k) = true := decide_eq_true k2
    clear k2
    as_aux_lemma =>
     go_wp2_with fail
     go_ret
     exact ⟨by rw [HE.out]; rfl, HBL.out⟩
   have gk2 : decide (15 < k) = false := decide_eq_false k2
   have HQk2 := Lib.hid k2
   clear k2
   go_wp2_with fail
   refine (CH116.out _).mono ?_
   rintro e wx ⟨rfl, rfl⟩
   go_wp2_with fail
   refine (CH108.out _).mono ?_
   rintro e wx ⟨rfl, rfl⟩
   go_wp2_with fail
   refine (CH110.out _).mono ?_
   rintro e wx ⟨rfl, rfl⟩
   by_cases n0 : num = 0
   rotate_left
   ·have HE : Hid (rr = false) := Lib.hid (by
     rw [Bool.eq_false_iff]
     intro h
     have := HR.out.1 h
     first | (simp at this; done) | omega)
    have g1 : ((num : Int) == 0) = false := by rw [beq_eq_false_iff_ne]; omega
    have g2 : ((num : Int) != 0) = true := by rw [bne_iff_ne]; omega
    clear n0
    as_aux_lemma =>
     go_wp2_with fail
     go_ret
     exact ⟨by rw [HE.out]; rfl, HBL.out⟩
   subst n0
   go_wp2_with fail
   refine (CH115.out _).mono ?_
   rintro e wx ⟨rfl, rfl⟩
   by_cases s0 : seq = 0
   rotate_left
   ·have HE : Hid (rr = false) := Lib.hid (by
     rw [Bool.eq_false_iff]
     intro h
     have := HR.out.1 h
     first | (simp at this; done) | omega)
    have g1 : ((seq : Int) == 0) = false := by rw [beq_eq_false_iff_ne]; omega
    have g2 : ((seq : Int) != 0) = true := by rw [bne_iff_ne]; omega
    clear s0
    as_aux_lemma =>
     go_wp2_with fail
     go_ret
     exact ⟨by rw [HE.out]; rfl, HBL.out⟩
   subst s0
   go_wp2_with fail
   refine (CH109.out _).mono ?_
   rintro e wx ⟨rfl, rfl⟩
   cases bN
   ·have HE : Hid (rr = false) := Lib.hid (by
     rw [Bool.eq_false_iff]
     intro h
     have := HR.out.1 h
     first | (simp at this; done) | omega)
    as_aux_lemma =>
     go_wp2_with fail
     go_ret
     exact ⟨by rw [HE.out]; rfl, HBL.out⟩
   go_wp2_with fail
   refine (CSt.out _).mono ?_
   rintro e w1 ⟨rfl, hb1⟩
   have HB1 := Lib.hid hb1
   clear hb1 c0 c8 c9 c18 c20 c21 a2 a3 a4 a5 a6 a7 hns hnn HBL gk1 gk2
   have HAX := Lib.hid (HAt.out w1 HB1.out)
   have HBL := Lib.hid (bthen HB0.out HB1.out)
   have c17 := HAX.out.c17
   have c19 := HAX.out.c19
   have HRO : Hid (w1.rangeAt w.heap.size 10 OA) := Lib.hid (by have h := HAX.out.r10; rw [HOA.out] at h; exact h)
   have HRI : Hid (w1.rangeAt w.heap.size 22 IL) := Lib.hid (by have h := HAX.out.r22; rw [HIL.out] at h; exact h)
   dsimp only at c17 c19
   clear HAX
   cases bS
   ·have HE : Hid (rr = false) := Lib.hid (by
     rw [Bool.eq_false_iff]
     intro h
     have := HR.out.1 h
     first | (simp at this; done) | omega)
    as_aux_lemma =>
     go_wp2_with fail
     go_ret
     exact ⟨by rw [HE.out]; rfl, HBL.out⟩
   by_cases f1 : fro < 0
   ·have HE : Hid (rr = false) := Lib.hid (by
     rw [Bool.eq_false_iff]
     intro h
     have := HR.out.1 h
     first | (simp at this; done) | omega)
    have g1 : decide (fro < 0) = true := decide_eq_true f1
    clear f1
    as_aux_lemma =>
     go_wp2_with fail
     go_ret
     exact ⟨by rw [HE.out]; rfl, HBL.out⟩
   have gf1 : decide (fro < 0) = false := decide_eq_false f1
   have HQf1 := Lib.hid f1
   clear f1
   by_cases f2 : 2 < fro
   ·have HE : Hid (rr = false) := Lib.hid (by
     rw [Bool.eq_false_iff]
     intro h
     have := HR.out.1 h
     first | (simp at this; done) | omega)
    have g1 : decide (2 < fro) = true := decide_eq_true f2
    clear f2
    as_aux_lemma =>
     go_wp2_with fail
     go_ret
     exact ⟨by rw [HE.out]; rfl, HBL.out⟩
   have gf2 : decide (2 < fro) = false := decide_eq_false f2
   have HQf2 := Lib.hid f2
   clear f2
   go_wp2_with fail
   refine (CH102.out _).mono ?_
   rintro e wx ⟨rfl, rfl⟩
   by_cases f0 : fro = 0
   rotate_left
   ·have HE : Hid (rr = false) := Lib.hid (by
     rw [Bool.eq_false_iff]
     intro h
     have := HR.out.1 h
     first | (simp at this; done) | omega)
    have g1 : (fro == 0) = false := by rw [beq_eq_false_iff_ne]; omega
    have g2 : (fro != 0) = true := by rw [bne_iff_ne]; omega
    clear f0
    as_aux_lemma =>
     go_wp2_with fail
     go_ret
     exact ⟨by rw [HE.out]; rfl, HBL.out⟩
   subst f0
   by_cases b1 : blocks < 0
   ·have HE : Hid (rr = false) := Lib.hid (by
     rw [Bool.eq_false_iff]
     intro h
     have := HR.out.1 h
     first | (simp at this; done) | omega)
    have g1 : decide (blocks < 0) = true := decide_eq_true b1
    clear b1
    as_aux_lemma =>
     go_wp2_with fail
     go_ret
     exact ⟨by rw [HE.out]; rfl, HBL.out⟩
   have gb1 : decide (blocks < 0) = false := decide_eq_false b1
   have HQb1 := Lib.hid b1
   clear b1
   by_cases b2 : 1048576 < blocks
   ·have HE : Hid (rr = false) := Lib.hid (by
     rw [Bool.eq_false_iff]
     intro h
     have := HR.out.1 h
     first | (simp at this; done) | omega)
    have g1 : decide (1048576 < blocks) = true := decide_eq_true b2
    clear b2
    as_aux_lemma =>
     go_wp2_with fail
     go_ret
     exact ⟨by rw [HE.out]; rfl, HBL.out⟩
   have gb2 : decide (1048576 < blocks) = false := decide_eq_false b2
   have HQb2 := Lib.hid b2
   clear b2
   go_wp2_with fail
   refine (CH98.out _).mono ?_
   rintro e wx ⟨rfl, rfl⟩
   by_cases b0 : blocks = 0
   rotate_left
   ·have HE : Hid (rr = false) := Lib.hid (by
     rw [Bool.eq_false_iff]
     intro h
     have := HR.out.1 h
     first | (simp at this; done) | omega)
    have g1 : (blocks == 0) = false := by rw [beq_eq_false_iff_ne]; omega
    have g2 : (blocks != 0) = true := by rw [bne_iff_ne]; omega
    clear b0
    as_aux_lemma =>
     go_wp2_with fail
     go_ret
     exact ⟨by rw [HE.out]; rfl, HBL.out⟩
   subst b0
   go_wp2_with fail
   refine (CH111.out _).mono ?_
   rintro e wx ⟨rfl, rfl⟩
   go_wp2_with fail
   refine (CH111.out _).mono ?_
   rintro e wx ⟨rfl, rfl⟩
   go_wp2_with (refine wpList_load_met (by kernel_rfl) 70 _ rfl w.heap.size 10 rfl OA _ HRO.out Tryz.underlying70 rfl HIO.out ?_)
   refine (CN.out _ HBL.out).mono ?_
   rintro e w2 ⟨rfl, hb2⟩
   have HBL2 := Lib.hid (bthen HBL.out hb2)
   have HRI2 : Hid (w2.rangeAt w.heap.size 22 IL) := Lib.hid (rangeAt_below HRI.out (Nat.lt_of_lt_of_le HWS.out HB1.out.size) hb2)
   clear HBL hb2 HRO HRI
   have HBL := HBL2
   clear HBL2
   cases bP
   ·have HE : Hid (rr = false) := Lib.hid (by
     rw [Bool.eq_false_iff]
     intro h
     have := HR.out.1 h
     first | (simp at this; done) | omega)
    as_aux_lemma =>
     go_wp2_with fail
     go_ret
     exact ⟨by rw [HE.out]; rfl, HBL.out⟩
   go_wp2_with fail
   refine (CH105.out _).mono ?_
   rintro e wx ⟨rfl, rfl⟩
   go_wp2_with (refine wpList_load_met (by kernel_rfl) 78 _ rfl w.heap.size 22 rfl IL _ HRI2.out Tryz.underlying78 rfl HII.out ?_)
   refine (CJ.out _ HBL.out).mono ?_
   rintro e w3 ⟨rfl, hb3⟩
   have HBL2 := Lib.hid (bthen HBL.out hb3)
   clear HBL hb3
   have HE : Hid (rr = bJ) := Lib.hid (by
    have h := HR.out
    have q1 := HQk1.out
    have q2 := HQk2.out
    have q5 := HQb1.out
    have q6 := HQb2.out
    have q3 := HQf1.out
    have q4 := HQf2.out
    clear HR
    rw [Bool.eq_iff_iff, h]
    clear h
    cases bJ <;> (try simp) <;> (try omega))
   as_aux_lemma =>
    go_wp2_with fail
    go_ret
    exact ⟨by rw [HE.out]; rfl, HBL2.out⟩
 ·skip
  have h116 : hasL [115, 111, 98] 116 = false := rfl
  have h108 : hasL [115, 111, 98] 108 = false := rfl
  have h110 : hasL [115, 111, 98] 110 = false := rfl
  have h115 : hasL [115, 111, 98] 115 = true := rfl
  have h109 : hasL [115, 111, 98] 109 = false := rfl
  have h102 : hasL [115, 111, 98] 102 = false := rfl
  have h98 : hasL [115, 111, 98] 98 = true := rfl
  have h111 : hasL [115, 111, 98] 111 = true := rfl
  have h105 : hasL [115, 111, 98] 105 = false := rfl
  have HR := Lib.hid HR0.out
  simp only [h116, h108, h110, h115, h109, h102, h98, h111, h105, Bool.false_eq_true, false_or, true_or, true_and, and_true, if_true, if_false, reduceIte] at HR
  clear HLC HR0
  as_aux_lemma =>
   go_enter Tryz.func55, Tryz.ntmps55
   go_upto_region 2 with fail
   clear hW0
   by_cases k1 : k < 1
   ·have HE : Hid (rr = false) := Lib.hid (by
     rw [Bool.eq_false_iff]
     intro h
     have := HR.out.1 h
     first | (simp at this; done) | omega)
    have g1 : decide (k < 1) = true := decide_eq_true k1
    clear k1
    as_aux_lemma =>
     go_wp2_with fail
     go_ret
     exact ⟨by rw [HE.out]; rfl, HBL.out⟩
   have gk1 : decide (k < 1) = false := decide_eq_false k1
   have HQk1 := Lib.hid k1
   clear k1
   by_cases k2 : 15 < k
   ·have HE : Hid (rr = false) := Lib.hid (by
     rw [Bool.eq_false_iff]
     intro h
     have := HR.out.1 h
     first | (simp at this; done) | omega)
    have g1 : decide (15 < k) = true := decide_eq_true k2
    clear k2
    as_aux_lemma =>
     go_wp2_with fail
     go_ret
     exact ⟨by rw [HE.out]; rfl, HBL.out⟩
   have gk2 : decide (15 < k) = false := decide_eq_false k2
   have HQk2 := Lib.hid k2
   clear k2
   go_wp2_with fail
   refine (CH116.out _).mono ?_
   rintro e wx ⟨rfl, rfl⟩
   cases bE
   ·have HE : Hid (rr = false) := Lib.hid (by
     rw [Bool.eq_false_iff]
     intro h
     have := HR.out.1 h
     first | (simp at this; done) | omega)
    as_aux_lemma =>
     go_wp2_with fail
     go_ret
     exact ⟨by rw [HE.out]; rfl, HBL.out⟩
   go_wp2_with fail
   refine (CH108.out _).mono ?_
   rintro e wx ⟨rfl, rfl⟩
   cases lead
   rotate_left
   ·have HE : Hid (rr = false) := Lib.hid (by
     rw [Bool.eq_false_iff]
     intro h
     have := HR.out.1 h
     first | (simp at this; done) | omega)
    as_aux_lemma =>
     go_wp2_with fail
     go_ret
     exact ⟨by rw [HE.out]; rfl, HBL.out⟩
   go_wp2_with fail
   refine (CH110.out _).mono ?_
   rintro e wx ⟨rfl, rfl⟩
   by_cases n0 : num = 0
   rotate_left
   ·have HE : Hid (rr = false) := Lib.hid (by
     rw [Bool.eq_false_iff]
     intro h
     have := HR.out.1 h
     first | (simp at this; done) | omega)
    have g1 : ((num : Int) == 0) = false := by rw [beq_eq_false_iff_ne]; omega
    have g2 : ((num : Int) != 0) = true := by rw [bne_iff_ne]; omega
    clear n0
    as_aux_lemma =>
     go_wp2_with fail
     go_ret
     exact ⟨by rw [HE.out]; rfl, HBL.out⟩
   subst n0
   go_wp2_with fail
   refine (CH115.out _).mono ?_
   rintro e wx ⟨rfl, rfl⟩
   go_wp2_with fail
   refine (CH109.out _).mono ?_
   rintro e wx ⟨rfl, rfl⟩
   cases bN
   ·have HE : Hid (rr = false) := Lib.hid (by
     rw [Bool.eq_false_iff]
     intro h
     have := HR.out.1 h
     first | (simp at this; done) | omega)
    as_aux_lemma =>
     go_wp2_with fail
     go_ret
     exact ⟨by rw [HE.out]; rfl, HBL.out⟩
   go_wp2_with fail
   refine (CSt.out _).mono ?_
   rintro e w1 ⟨rfl, hb1⟩
   have HB1 := Lib.hid hb1
   clear hb1 c0 c8 c9 c18 c20 c21 a2 a3 a4 a5 a6 a7 hns hnn HBL gk1 gk2
   have HAX := Lib.hid (HAt.out w1 HB1.out)
   have HBL := Lib.hid (bthen HB0.out HB1.out)
   have c17 := HAX.out.c17
   have c19 := HAX.out.c19
   have HRO : Hid (w1.rangeAt w.heap.size 10 OA) := Lib.hid (by have h := HAX.out.r10; rw [HOA.out] at h; exact h)
   have HRI : Hid (w1.rangeAt w.heap.size 22 IL) := Lib.hid (by have h := HAX.out.r22; rw [HIL.out] at h; exact h)
   dsimp only at c17 c19
   clear HAX
   cases bS
   ·have HE : Hid (rr = false) := Lib.hid (by
     rw [Bool.eq_false_iff]
     intro h
     have := HR.out.1 h
     first | (simp at this; done) | omega)
    as_aux_lemma =>
     go_wp2_with fail
     go_ret
     exact ⟨by rw [HE.out]; rfl, HBL.out⟩
   by_cases f1 : fro < 0
   ·have HE : Hid (rr = false) := Lib.hid (by
     rw [Bool.eq_false_iff]
     intro h
     have := HR.out.1 h
     first | (simp at this; done) | omega)
    have g1 : decide (fro < 0) = true := decide_eq_true f1
    clear f1
    as_aux_lemma =>
     go_wp2_with fail
     go_ret
     exact ⟨by rw [HE.out]; rfl, HBL.out⟩
   have gf1 : decide (fro < 0) = false := decide_eq_false f1
   have HQf1 := Lib.hid f1
   clear f1
   by_cases f2 : 2 < fro
   ·have HE : Hid (rr = false) := Lib.hid (by
     rw [Bool.eq_false_iff]
     intro h
     have := HR.out.1 h
     first | (simp at this; done) | omega)
    have g1 : decide (2 < fro) = true := decide_eq_true f2
    clear f2
    as_aux_lemma =>
     go_wp2_with fail
     go_ret
     exact ⟨by rw [HE.out]; rfl, HBL.out⟩
   have gf2 : decide (2 < fro) = false := decide_eq_false f2
   have HQf2 := Lib.hid f2
   clear f2
   go_wp2_with fail
   refine (CH102.out _).mono ?_
   rintro e wx ⟨rfl, rfl⟩
   by_cases f0 : fro = 0
   rotate_left
   ·have HE : Hid (rr = false) := Lib.hid (by
     rw [Bool.eq_false_iff]
     intro h
     have := HR.out.1 h
     first | (simp at this; done) | omega)
    have g1 : (fro == 0) = false := by rw [beq_eq_false_iff_ne]; omega
    have g2 : (fro != 0) = true := by rw [bne_iff_ne]; omega
    clear f0
    as_aux_lemma =>
     go_wp2_with fail
     go_ret
     exact ⟨by rw [HE.out]; rfl, HBL.out⟩
   subst f0
   by_cases b1 : blocks < 0
   ·have HE : Hid (rr = false) := Lib.hid (by
     rw [Bool.eq_false_iff]
     intro h
     have := HR.out.1 h
     first | (simp at this; done) | omega)
    have g1 : decide (blocks < 0) = true := decide_eq_true b1
    clear b1
    as_aux_lemma =>
     go_wp2_with fail
     go_ret
     exact ⟨by rw [HE.out]; rfl, HBL.out⟩
   have gb1 : decide (blocks < 0) = false := decide_eq_false b1
   have HQb1 := Lib.hid b1
   clear b1
   by_cases b2 : 1048576 < blocks
   ·have HE : Hid (rr = false) := Lib.hid (by
     rw [Bool.eq_false_iff]
     intro h
     have := HR.out.1 h
     first | (simp at this; done) | omega)
    have g1 : decide (1048576 < blocks) = true := decide_eq_true b2
    clear b2
    as_aux_lemma =>
     go_wp2_with fail
     go_ret
     exact ⟨by rw [HE.out]; rfl, HBL.out⟩
   have gb2 : decide (1048576 < blocks) = false := decide_eq_false b2
   have HQb2 := Lib.hid b2
   clear b2
   go_wp2_with fail
   refine (CH98.out _).mono ?_
   rintro e wx ⟨rfl, rfl⟩
   go_wp2_with fail
   refine (CH111.out _).mono ?_
   rintro e wx ⟨rfl, rfl⟩
   go_wp2_with (refine wpList_load_met (by kernel_rfl) 70 _ rfl w.heap.size 10 rfl OA _ HRO.out Tryz.underlying70 rfl HIO.out ?_)
   refine (CO.out _).mono ?_
   rintro e w2 ⟨rfl, hb2⟩
   have HBL2 := Lib.hid (bthen HBL.out hb2)
   have HRI2 : Hid (w2.rangeAt w.heap.size 22 IL) := Lib.hid (rangeAt_below HRI.out (Nat.lt_of_lt_of_le HWS.out HB1.out.size) hb2)
   clear HBL hb2 HRO HRI
   have HBL := HBL2
   clear HBL2
   cases bO
   ·have HE : Hid (rr = false) := Lib.hid (by
     rw [Bool.eq_false_iff]
     intro h
     have := HR.out.1 h
     first | (simp at this; done) | omega)
    as_aux_lemma =>
     go_wp2_with fail
     go_ret
     exact ⟨by rw [HE.out]; rfl, HBL.out⟩
   go_wp2_with fail
   refine (CH111.out _).mono ?_
   rintro e wx ⟨rfl, rfl⟩
   go_wp2_with fail
   refine (CH105.out _).mono ?_
   rintro e wx ⟨rfl, rfl⟩
   go_wp2_with (refine wpList_load_met (by kernel_rfl) 78 _ rfl w.heap.size 22 rfl IL _ HRI2.out Tryz.underlying78 rfl HII.out ?_)
   refine (CJ.out _ HBL.out).mono ?_
   rintro e w3 ⟨rfl, hb3⟩
   have HBL2 := Lib.hid (bthen HBL.out hb3)
   clear HBL hb3
   have HE : Hid (rr = bJ) := Lib.hid (by
    have h := HR.out
    have q1 := HQk1.out
    have q2 := HQk2.out
    have q5 := HQb1.out
    have q6 := HQb2.out
    have q3 := HQf1.out
    have q4 := HQf2.out
    clear HR
    rw [Bool.eq_iff_iff, h]
    clear h
    cases bJ <;> (try simp) <;> (try omega))
   as_aux_lemma =>
    go_wp2_with fail
    go_ret
    exact ⟨by rw [HE.out]; rfl, HBL2.out⟩
 ·skip
  have h116 : hasL [115] 116 = false := rfl
  have h108 : hasL [115] 108 = false := rfl
  have h110 : hasL [115] 110 = false := rfl
  have h115 : hasL [115] 115 = true := rfl
  have h109 : hasL [115] 109 = false := rfl
  have h102 : hasL [115] 102 = false := rfl
  have h98 : hasL [115] 98 = false := rfl
  have h111 : hasL [115] 111 = false := rfl
  have h105 : hasL [115] 105 = false := rfl
  have HR := Lib.hid HR0.out
  simp only [h116, h108, h110, h115, h109, h102, h98, h111, h105, Bool.false_eq_true, false_or, true_or, true_and, and_true, if_true, if_false, reduceIte] at HR
  clear HLC HR0
  as_aux_lemma =>
   go_enter Tryz.func55, Tryz.ntmps55
   go_upto_region 2 with fail
   clear hW0
   by_cases k1 : k < 1
   ·have HE : Hid (rr = false) := Lib.hid (by
     rw [Bool.eq_false_iff]
     intro h
     have := HR.out.1 h
     first | (simp at this; done) | omega)
    have g1 : decide (k < 1) = true := decide_eq_true k1
    clear k1
    as_aux_lemma =>
     go_wp2_with fail
     go_ret
     exact ⟨by rw [HE.out]; rfl, HBL.out⟩
   have gk1 : decide (k < 1) = false := decide_eq_false k1
   have HQk1 := Lib.hid k1
   clear k1
   by_cases k2 : 15 < k
   ·have HE : Hid (rr = false) := Lib.hid (by
     rw [Bool.eq_false_iff]
     intro h
     have := HR.out.1 h
     first | (simp at this; done) | omega)
    have g1 : decide (15 < k) = true := decide_eq_true k2
    clear k2
    as_aux_lemma =>
     go_wp2_with fail
     go_ret
     exact ⟨by rw [HE.out]; rfl, HBL.out⟩
   have gk2 : decide (15 < k) = false := decide_eq_false k2
   have HQk2 := Lib.hid k2
   clear k2
   go_wp2_with fail
   refine (CH116.out _).mono ?_
   rintro e wx ⟨rfl, rfl⟩
   cases bE
   ·have HE : Hid (rr = false) := Lib.hid (by
     rw [Bool.eq_false_iff]
     intro h
     have := HR.out.1 h
     first | (simp at this; done) | omega)
    as_aux_lemma =>
     go_wp2_with fail
     go_ret
     exact ⟨by rw [HE.out]; rfl, HBL.out⟩
   go_wp2_with fail
   refine (CH108.out _).mono ?_
   rintro e wx ⟨rfl, rfl⟩
   cases lead
   rotate_left
   ·have HE : Hid (rr = false) := Lib.hid (by
     rw [Bool.eq_false_iff]
     intro h
     have := HR.out.1 h
     first | (simp at this; done) | omega)
    as_aux_lemma =>
     go_wp2_with fail
     go_ret
     exact ⟨by rw [HE.out]; rfl, HBL.out⟩
   go_wp2_with fail
   refine (CH110.out _).mono ?_
   rintro e wx ⟨rfl, rfl⟩
   by_cases n0 : num = 0
   rotate_left
   ·have HE : Hid (rr = false) := Lib.hid (by
     rw [Bool.eq_false_iff]
     intro h
     have := HR.out.1 h
     first | (simp at this; done) | omega)
    have g1 : ((num : Int) == 0) = false := by rw [beq_eq_false_iff_ne]; omega
    have g2 : ((num : Int) != 0) = true := by rw [bne_iff_ne]; omega
    clear n0
    as_aux_lemma =>
     go_wp2_with fail
     go_ret
     exact ⟨by rw [HE.out]; rfl, HBL.out⟩
   subst n0
   go_wp2_with fail
   refine (CH115.out _).mono ?_
   rintro e wx ⟨rfl, rfl⟩
   go_wp2_with fail
   refine (CH109.out _).mono ?_
   rintro e wx ⟨rfl, rfl⟩
   cases bN
   ·have HE : Hid (rr = false) := Lib.hid (by
     rw [Bool.eq_false_iff]
     intro h
     have := HR.out.1 h
     first | (simp at this; done) | omega)
    as_aux_lemma =>
     go_wp2_with fail
     go_ret
     exact ⟨by rw [HE.out]; rfl, HBL.out⟩
   go_wp2_with fail
   refine (CSt.out _).mono ?_
   rintro e w1 ⟨rfl, hb1⟩
   have HB1 := Lib.hid hb1
   clear hb1 c0 c8 c9 c18 c20 c21 a2 a3 a4 a5 a6 a7 hns hnn HBL gk1 gk2
   have HAX := Lib.hid (HAt.out w1 HB1.out)
   have HBL := Lib.hid (bthen HB0.out HB1.out)
   have c17 := HAX.out.c17
   have c19 := HAX.out.c19
   have HRO : Hid (w1.rangeAt w.heap.size 10 OA) := Lib.hid (by have h := HAX.out.r10; rw [HOA.out] at h; exact h)
   have HRI : Hid (w1.rangeAt w.heap.size 22 IL) := Lib.hid (by have h := HAX.out.r22; rw [HIL.out] at h; exact h)
   dsimp only at c17 c19
   clear HAX
   cases bS
   ·have HE : Hid (rr = false) := Lib.hid (by
     rw [Bool.eq_false_iff]
     intro h
     have := HR.out.1 h
     first | (simp at this; done) | omega)
    as_aux_lemma =>
     go_wp2_with fail
     go_ret
     exact ⟨by rw [HE.out]; rfl, HBL.out⟩
   by_cases f1 : fro < 0
   ·have HE : Hid (rr = false) := Lib.hid (by
     rw [Bool.eq_false_iff]
     intro h
     have := HR.out.1 h
     first | (simp at this; done) | omega)
    have g1 : decide (fro < 0) = true := decide_eq_true f1
    clear f1
    as_aux_lemma =>
     go_wp2_with fail
     go_ret
     exact ⟨by rw [HE.out]; rfl, HBL.out⟩
   have gf1 : decide (fro < 0) = false := decide_eq_false f1
   have HQf1 := Lib.hid f1
   clear f1
   by_cases f2 : 2 < fro
   ·have HE : Hid (rr = false) := Lib.hid (by
     rw [Bool.eq_false_iff]
     intro h
     have := HR.out.1 h
     first | (simp at this; done) | omega)
    have g1 : decide (2 < fro) = true := decide_eq_true f2
    clear f2
    as_aux_lemma =>
     go_wp2_with fail
     go_ret
     exact ⟨by rw [HE.out]; rfl, HBL.out⟩
   have gf2 : decide (2 < fro) = false := decide_eq_false f2
   have HQf2 := Lib.hid f2
   clear f2
   go_wp2_with fail
   refine (CH102.out _).mono ?_
   rintro e wx ⟨rfl, rfl⟩
   by_cases f0 : fro = 0
   rotate_left
   ·have HE : Hid (rr = false) := Lib.hid (by
     rw [Bool.eq_false_iff]
     intro h
     have := HR.out.1 h
     first | (simp at this; done) | omega)
    have g1 : (fro == 0) = false := by rw [beq_eq_false_iff_ne]; omega
    have g2 : (fro != 0) = true := by rw [bne_iff_ne]; omega
    clear f0
    as_aux_lemma =>
     go_wp2_with fail
     go_ret
     exact ⟨by rw [HE.out]; rfl, HBL.out⟩
   subst f0
   by_cases b1 : blocks < 0
   ·have HE : Hid (rr = false) := Lib.hid (by
     rw [Bool.eq_false_iff]
     intro h
     have := HR.out.1 h
     first | (simp at this; done) | omega)
    have g1 : decide (blocks < 0) = true := decide_eq_true b1
    clear b1
    as_aux_lemma =>
     go_wp2_with fail
     go_ret
     exact ⟨by rw [HE.out]; rfl, HBL.out⟩
   have gb1 : decide (blocks < 0) = false := decide_eq_false b1
   have HQb1 := Lib.hid b1
   clear b1
   by_cases b2 : 1048576 < blocks
   ·have HE : Hid (rr = false) := Lib.hid (by
     rw [Bool.eq_false_iff]
     intro h
     have := HR.out.1 h
     first | (simp at this; done) | omega)
    have g1 : decide (1048576 < blocks) = true := decide_eq_true b2
    clear b2
    as_aux_lemma =>
     go_wp2_with fail
     go_ret
     exact ⟨by rw [HE.out]; rfl, HBL.out⟩
   have gb2 : decide (1048576 < blocks) = false := decide_eq_false b2
   have HQb2 := Lib.hid b2
   clear b2
   go_wp2_with fail
   refine (CH98.out _).mono ?_
   rintro e wx ⟨rfl, rfl⟩
   by_cases b0 : blocks = 0
   rotate_left
   ·have HE : Hid (rr = false) := Lib.hid (by
     rw [Bool.eq_false_iff]
     intro h
     have := HR.out.1 h
     first | (simp at this; done) | omega)
    have g1 : (blocks == 0) = false := by rw [beq_eq_false_iff_ne]; omega
    have g2 : (blocks != 0) = true := by rw [bne_iff_ne]; omega
    clear b0
    as_aux_lemma =>
     go_wp2_with fail
     go_ret
     exact ⟨by rw [HE.out]; rfl, HBL.out⟩
   subst b0
   go_wp2_with fail
   refine (CH111.out _).mono ?_
   rintro e wx ⟨rfl, rfl⟩
   go_wp2_with fail
   refine (CH111.out _).mono ?_
   rintro e wx ⟨rfl, rfl⟩
   go_wp2_with (refine wpList_load_met (by kernel_rfl) 70 _ rfl w.heap.size 10 rfl OA _ HRO.out Tryz.underlying70 rfl HIO.out ?_)
   refine (CN.out _ HBL.out).mono ?_
   rintro e w2 ⟨rfl, hb2⟩
   have HBL2 := Lib.hid (bthen HBL.out hb2)
   have HRI2 : Hid (w2.rangeAt w.heap.size 22 IL) := Lib.hid (rangeAt_below HRI.out (Nat.lt_of_lt_of_le HWS.out HB1.out.size) hb2)
   clear HBL hb2 HRO HRI
   have HBL := HBL2
   clear HBL2
   cases bP
   ·have HE : Hid (rr = false) := Lib.hid (by
     rw [Bool.eq_false_iff]
     intro h
     have := HR.out.1 h
     first | (simp at this; done) | omega)
    as_aux_lemma =>
     go_wp2_with fail
     go_ret
     exact ⟨by rw [HE.out]; rfl, HBL.out⟩
   go_wp2_with fail
   refine (CH105.out _).mono ?_
   rintro e wx ⟨rfl, rfl⟩
   go_wp2_with (refine wpList_load_met (by kernel_rfl) 78 _ rfl w.heap.size 22 rfl IL _ HRI2.out Tryz.underlying78 rfl HII.out ?_)
   refine (CJ.out _ HBL.out).mono ?_
   rintro e w3 ⟨rfl, hb3⟩
   have HBL2 := Lib.hid (bthen HBL.out hb3)
   clear HBL hb3
   have HE : Hid (rr = bJ) := Lib.hid (by
    have h := HR.out
    have q1 := HQk1.out
    have q2 := HQk2.out
    have q5 := HQb1.out
    have q6 := HQb2.out
    have q3 := HQf1.out
    have q4 := HQf2.out
    clear HR
    rw [Bool.eq_iff_iff, h]
    clear h
    cases bJ <;> (try simp) <;> (try omega))
   as_aux_lemma =>
    go_wp2_with fail
    go_ret
    exact ⟨by rw [HE.out]; rfl, HBL2.out⟩
 ·skip
  have h116 : hasL [110] 116 = false := rfl
  have h108 : hasL [110] 108 = false := rfl
  have h110 : hasL [110] 110 = true := rfl
  have h115 : hasL [110] 115 = false := rfl
  have h109 : hasL [110] 109 = false := rfl
  have h102 : hasL [110] 102 = false := rfl
  have h98 : hasL [110] 98 = false := rfl
  have h111 : hasL [110] 111 = false := rfl
  have h105 : hasL [110] 105 = false := rfl
  have HR := Lib.hid HR0.out
  simp only [h116, h108, h110, h115, h109, h102, h98, h111, h105, Bool.false_eq_true, false_or, true_or, true_and, and_true, if_true, if_false, reduceIte] at HR
  clear HLC HR0
  as_aux_lemma =>
   go_enter Tryz.func55, Tryz.ntmps55
   go_upto_region 2 with fail
   clear hW0
   by_cases k1 : k < 1
   ·have HE : Hid (rr = false) := Lib.hid (by
     rw [Bool.eq_false_iff]
     intro h
     have := HR.out.1 h
     first | (simp at this; done) | omega)
    have g1 : decide (k < 1) = true := decide_eq_true k1
    clear k1
    as_aux_lemma =>
     go_wp2_with fail
     go_ret
     exact ⟨by rw [HE.out]; rfl, HBL.out⟩
   have gk1 : decide (k < 1) = false := decide_eq_false k1
   have HQk1 := Lib.hid k1
   clear k1
   by_cases k2 : 15 < k
   ·have HE : Hid (rr = false) := Lib.hid (by
     rw [Bool.eq_false_iff]
     intro h
     have := HR.out.1 h
     first | (simp at this; done) | omega)
    have g1 : decide (15 < k) = true := decide_eq_true k2
    clear k2
    as_aux_lemma =>
     go_wp2_with fail
     go_ret
     exact ⟨by rw [HE.out]; rfl, HBL.out⟩
   have gk2 : decide (15 < k) = false := decide_eq_false k2
   have HQk2 := Lib.hid k2
   clear k2
   go_wp2_with fail
   refine (CH116.out _).mono ?_
   rintro e wx ⟨rfl, rfl⟩
   cases bE
   ·have HE : Hid (rr = false) := Lib.hid (by
     rw [Bool.eq_false_iff]
     intro h
     have := HR.out.1 h
     first | (simp at this; done) | omega)
    as_aux_lemma =>
     go_wp2_with fail
     go_ret
     exact ⟨by rw [HE.out]; rfl, HBL.out⟩
   go_wp2_with fail
   refine (CH108.out _).mono ?_
   rintro e wx ⟨rfl, rfl⟩
   cases lead
   rotate_left
   ·have HE : Hid (rr = false) := Lib.hid (by
     rw [Bool.eq_false_iff]
     intro h
     have := HR.out.1 h
     first | (simp at this; done) | omega)
    as_aux_lemma =>
     go_wp2_with fail
     go_ret
     exact ⟨by rw [HE.out]; rfl, HBL.out⟩
   go_wp2_with fail
   refine (CH110.out _).mono ?_
   rintro e wx ⟨rfl, rfl⟩
   go_wp2_with fail
   refine (CH115.out _).mono ?_
   rintro e wx ⟨rfl, rfl⟩
   by_cases s0 : seq = 0
   rotate_left
   ·have HE : Hid (rr = false) := Lib.hid (by
     rw [Bool.eq_false_iff]
     intro h
     have := HR.out.1 h
     first | (simp at this; done) | omega)
    have g1 : ((seq : Int) == 0) = false := by rw [beq_eq_false_iff_ne]; omega
    have g2 : ((seq : Int) != 0) = true := by rw [bne_iff_ne]; omega
    clear s0
    as_aux_lemma =>
     go_wp2_with fail
     go_ret
     exact ⟨by rw [HE.out]; rfl, HBL.out⟩
   subst s0
   go_wp2_with fail
   refine (CH109.out _).mono ?_
   rintro e wx ⟨rfl, rfl⟩
   cases bN
   ·have HE : Hid (rr = false) := Lib.hid (by
     rw [Bool.eq_false_iff]
     intro h
     have := HR.out.1 h
     first | (simp at this; done) | omega)
    as_aux_lemma =>
     go_wp2_with fail
     go_ret
     exact ⟨by rw [HE.out]; rfl, HBL.out⟩
   go_wp2_with fail
   refine (CSt.out _).mono ?_
   rintro e w1 ⟨rfl, hb1⟩
   have HB1 := Lib.hid hb1
   clear hb1 c0 c8 c9 c18 c20 c21 a2 a3 a4 a5 a6 a7 hns hnn HBL gk1 gk2
   have HAX := Lib.hid (HAt.out w1 HB1.out)
   have HBL := Lib.hid (bthen HB0.out HB1.out)
   have c17 := HAX.out.c17
   have c19 := HAX.out.c19
   have HRO : Hid (w1.rangeAt w.heap.size 10 OA) := Lib.hid (by have h := HAX.out.r10; rw [HOA.out] at h; exact h)
   have HRI : Hid (w1.rangeAt w.heap.size 22 IL) := Lib.hid (by have h := HAX.out.r22; rw [HIL.out] at h; exact h)
   dsimp only at c17 c19
   clear HAX
   cases bS
   ·have HE : Hid (rr = false) := Lib.hid (by
     rw [Bool.eq_false_iff]
     intro h
     have := HR.out.1 h
     first | (simp at this; done) | omega)
    as_aux_lemma =>
     go_wp2_with fail
     go_ret
     exact ⟨by rw [HE.out]; rfl, HBL.out⟩
   by_cases f1 : fro < 0
   ·have HE : Hid (rr = false) := Lib.hid (by
     rw [Bool.eq_false_iff]
     intro h
     have := HR.out.1 h
     first | (simp at this; done) | omega)
    have g1 : decide (fro < 0) = true := decide_eq_true f1
    clear f1
    as_aux_lemma =>
     go_wp2_with fail
     go_ret
     exact ⟨by rw [HE.out]; rfl, HBL.out⟩
   have gf1 : decide (fro < 0) = false := decide_eq_false f1
   have HQf1 := Lib.hid f1
   clear f1
   by_cases f2 : 2 < fro
   ·have HE : Hid (rr = false) := Lib.hid (by
     rw [Bool.eq_false_iff]
     intro h
     have := HR.out.1 h
     first | (simp at this; done) | omega)
    have g1 : decide (2 < fro) = true := decide_eq_true f2
    clear f2
    as_aux_lemma =>
     go_wp2_with fail
     go_ret
     exact ⟨by rw [HE.out]; rfl, HBL.out⟩
   have gf2 : decide (2 < fro) = false := decide_eq_false f2
   have HQf2 := Lib.hid f2
   clear f2
   go_wp2_with fail
   refine (CH102.out _).mono ?_
   rintro e wx ⟨rfl, rfl⟩
   by_cases f0 : fro = 0
   rotate_left
   ·have HE : Hid (rr = false) := Lib.hid (by
     rw [Bool.eq_false_iff]
     intro h
     have := HR.out.1 h
     first | (simp at this; done) | omega)
    have g1 : (fro == 0) = false := by rw [beq_eq_false_iff_ne]; omega
    have g2 : (fro != 0) = true := by rw [bne_iff_ne]; omega
    clear f0
    as_aux_lemma =>
     go_wp2_with fail
     go_ret
     exact ⟨by rw [HE.out]; rfl, HBL.out⟩
   subst f0
   by_cases b1 : blocks < 0
   ·have HE : Hid (rr = false) := Lib.hid (by
     rw [Bool.eq_false_iff]
     intro h
     have := HR.out.1 h
     first | (simp at this; done) | omega)
    have g1 : decide (blocks < 0) = true := decide_eq_true b1
    clear b1
    as_aux_lemma =>
     go_wp2_with fail
     go_ret
     exact ⟨by rw [HE.out]; rfl, HBL.out⟩
   have gb1 : decide (blocks < 0) = false := decide_eq_false b1
   have HQb1 := Lib.hid b1
   clear b1
   by_cases b2 : 1048576 < blocks
   ·have HE : Hid (rr = false) := Lib.hid (by
     rw [Bool.eq_false_iff]
     intro h
     have := HR.out.1 h
     first | (simp at this; done) | omega)
    have g1 : decide (1048576 < blocks) = true := decide_eq_true b2
    clear b2
    as_aux_lemma =>
     go_wp2_with fail
     go_ret
     exact ⟨by rw [HE.out]; rfl, HBL.out⟩
   have gb2 : decide (1048576 < blocks) = false := decide_eq_false b2
   have HQb2 := Lib.hid b2
   clear b2
   go_wp2_with fail
   refine (CH98.out _).mono ?_
   rintro e wx ⟨rfl, rfl⟩
   by_cases b0 : blocks = 0
   rotate_left
   ·have HE : Hid (rr = false) := Lib.hid (by
     rw [Bool.eq_false_iff]
     intro h
     have := HR.out.1 h
     first | (simp at this; done) | omega)
    have g1 : (blocks == 0) = false := by rw [beq_eq_false_iff_ne]; omega
    have g2 : (blocks != 0) = true := by rw [bne_iff_ne]; omega
    clear b0
    as_aux_lemma =>
     go_wp2_with fail
     go_ret
     exact ⟨by rw [HE.out]; rfl, HBL.out⟩
   subst b0
   go_wp2_with fail
   refine (CH111.out _).mono ?_
   rintro e wx ⟨rfl, rfl⟩
   go_wp2_with fail
   refine (CH111.out _).mono ?_
   rintro e wx ⟨rfl, rfl⟩
   go_wp2_with (refine wpList_load_met (by kernel_rfl) 70 _ rfl w.heap.size 10 rfl OA _ HRO.out Tryz.underlying70 rfl HIO.out ?_)
   refine (CN.out _ HBL.out).mono ?_
   rintro e w2 ⟨rfl, hb2⟩
   have HBL2 := Lib.hid (bthen HBL.out hb2)
   have HRI2 : Hid (w2.rangeAt w.heap.size 22 IL) := Lib.hid (rangeAt_below HRI.out (Nat.lt_of_lt_of_le HWS.out HB1.out.size) hb2)
   clear HBL hb2 HRO HRI
   have HBL := HBL2
   clear HBL2
   cases bP
   ·have HE : Hid (rr = false) := Lib.hid (by
     rw [Bool.eq_false_iff]
     intro h
     have := HR.out.1 h
     first | (simp at this; done) | omega)
    as_aux_lemma =>
     go_wp2_with fail
     go_ret
     exact ⟨by rw [HE.out]; rfl, HBL.out⟩
   go_wp2_with fail
   refine (CH105.out _).mono ?_
   rintro e wx ⟨rfl, rfl⟩
   go_wp2_with (refine wpList_load_met (by kernel_rfl) 78 _ rfl w.heap.size 22 rfl IL _ HRI2.out Tryz.underlying78 rfl HII.out ?_)
   refine (CJ.out _ HBL.out).mono ?_
   rintro e w3 ⟨rfl, hb3⟩
   have HBL2 := Lib.hid (bthen HBL.out hb3)
   clear HBL hb3
   have HE : Hid (rr = bJ) := Lib.hid (by
    have h := HR.out
    have q1 := HQk1.out
    have q2 := HQk2.out
    have q5 := HQb1.out
    have q6 := HQb2.out
    have q3 := HQf1.out
    have q4 := HQf2.out
    clear HR
    rw [Bool.eq_iff_iff, h]
    clear h
    cases bJ <;> (try simp) <;> (try omega))
   as_aux_lemma =>
    go_wp2_with fail
    go_ret
    exact ⟨by rw [HE.out]; rfl, HBL2.out⟩
 ·skip
  have h116 : hasL [110, 102, 109] 116 = false := rfl
  have h108 : hasL [110, 102, 109] 108 = false := rfl
  have h110 : hasL [110, 102, 109] 110 = true := rfl
  have h115 : hasL [110, 102, 109] 115 = false := rfl
  have h109 : hasL [110, 102, 109] 109 = true := rfl
  have h102 : hasL [110, 102, 109] 102 = true := rfl
  have h98 : hasL [110, 102, 109] 98 = false := rfl
  have h111 : hasL [110, 102, 109] 111 = false := rfl
  have h105 : hasL [110, 102, 109] 105 = false := rfl
  have HR := Lib.hid HR0.out
  simp only [h116, h108, h110, h115, h109, h102, h98, h111, h105, Bool.false_eq_true, false_or, true_or, true_and, and_true, if_true, if_false, reduceIte] at HR
  clear HLC HR0
  as_aux_lemma =>
   go_enter Tryz.func55, Tryz.ntmps55
   go_upto_region 2 with fail
   clear hW0
   by_cases k1 : k < 1
   ·have HE : Hid (rr = false) := Lib.hid (by
     rw [Bool.eq_false_iff]
     intro h
     have := HR.out.1 h
     first | (simp at this; done) | omega)
    have g1 : decide (k < 1) = true := decide_eq_true k1
    clear k1
    as_aux_lemma =>
     go_wp2_with fail
     go_ret
     exact ⟨by rw [HE.out]; rfl, HBL.out⟩
   have gk1 : decide (k < 1) = false := decide_eq_false k1
   have HQk1 := Lib.hid k1
   clear k1
   by_cases k2 : 15 < k
   ·have HE : Hid (rr = false) := Lib.hid (by
     rw [Bool.eq_false_iff]
     intro h
     have := HR.out.1 h
     first | (simp at this; done) | omega)
    have g1 : decide (15 < k) = true := decide_eq_true k2
    clear k2
    as_aux_lemma =>
     go_wp2_with fail
     go_ret
     exact ⟨by rw [HE.out]; rfl, HBL.out⟩
   have gk2 : decide (15 < k) = false := decide_eq_false k2
   have HQk2 := Lib.hid k2
   clear k2
   go_wp2_with fail
   refine (CH116.out _).mono ?_
   rintro e wx ⟨rfl, rfl⟩
   cases bE
   ·have HE : Hid (rr = false) := Lib.hid (by
     rw [Bool.eq_false_iff]
     intro h
     have := HR.out.1 h
     first | (simp at this; done) | omega)
    as_aux_lemma =>
     go_wp2_with fail
     go_ret
     exact ⟨by rw [HE.out]; rfl, HBL.out⟩
   go_wp2_with fail
   refine (CH108.out _).mono ?_
   rintro e wx ⟨rfl, rfl⟩
   cases lead
   rotate_left
   ·have HE : Hid (rr = false) := Lib.hid (by
     rw [Bool.eq_false_iff]
     intro h
     have := HR.out.1 h
     first | (simp at this; done) | omega)
    as_aux_lemma =>
     go_wp2_with fail
     go_ret
     exact ⟨by rw [HE.out]; rfl, HBL.out⟩
   go_wp2_with fail
   refine (CH110.out _).mono ?_
   rintro e wx ⟨rfl, rfl⟩
   go_wp2_with fail
   refine (CH115.out _).mono ?_
   rintro e wx ⟨rfl, rfl⟩
   by_cases s0 : seq = 0
   rotate_left
   ·have HE : Hid (rr = false) := Lib.hid (by
     rw [Bool.eq_false_iff]
     intro h
     have := HR.out.1 h
     first | (simp at this; done) | omega)
    have g1 : ((seq : Int) == 0) = false := by rw [beq_eq_false_iff_ne]; omega
    have g2 : ((seq : Int) != 0) = true := by rw [bne_iff_ne]; omega
    clear s0
    as_aux_lemma =>
     go_wp2_with fail
     go_ret
     exact ⟨by rw [HE.out]; rfl, HBL.out⟩
   subst s0
   go_wp2_with fail
   refine (CH109.out _).mono ?_
   rintro e wx ⟨rfl, rfl⟩
   go_wp2_with fail
   refine (CSt.out _).mono ?_
   rintro e w1 ⟨rfl, hb1⟩
   have HB1 := Lib.hid hb1
   clear hb1 c0 c8 c9 c18 c20 c21 a2 a3 a4 a5 a6 a7 hns hnn HBL gk1 gk2
   have HAX := Lib.hid (HAt.out w1 HB1.out)
   have HBL := Lib.hid (bthen HB0.out HB1.out)
   have c17 := HAX.out.c17
   have c19 := HAX.out.c19
   have HRO : Hid (w1.rangeAt w.heap.size 10 OA) := Lib.hid (by have h := HAX.out.r10; rw [HOA.out] at h; exact h)
   have HRI : Hid (w1.rangeAt w.heap.size 22 IL) := Lib.hid (by have h := HAX.out.r22; rw [HIL.out] at h; exact h)
   dsimp only at c17 c19
   clear HAX
   cases bS
   ·have HE : Hid (rr = false) := Lib.hid (by
     rw [Bool.eq_false_iff]
     intro h
     have := HR.out.1 h
     first | (simp at this; done) | omega)
    as_aux_lemma =>
     go_wp2_with fail
     go_ret
     exact ⟨by rw [HE.out]; rfl, HBL.out⟩
   by_cases f1 : fro < 0
   ·have HE : Hid (rr = false) := Lib.hid (by
     rw [Bool.eq_false_iff]
     intro h
     have := HR.out.1 h
     first | (simp at this; done) | omega)
    have g1 : decide (fro < 0) = true := decide_eq_true f1
    clear f1
    as_aux_lemma =>
     go_wp2_with fail
     go_ret
     exact ⟨by rw [HE.out]; rfl, HBL.out⟩
   have gf1 : decide (fro < 0) = false := decide_eq_false f1
   have HQf1 := Lib.hid f1
   clear f1
   by_cases f2 : 2 < fro
   ·have HE : Hid (rr = false) := Lib.hid (by
     rw [Bool.eq_false_iff]
     intro h
     have := HR.out.1 h
     first | (simp at this; done) | omega)
    have g1 : decide (2 < fro) = true := decide_eq_true f2
    clear f2
    as_aux_lemma =>
     go_wp2_with fail
     go_ret
     exact ⟨by rw [HE.out]; rfl, HBL.out⟩
   have gf2 : decide (2 < fro) = false := decide_eq_false f2
   have HQf2 := Lib.hid f2
   clear f2
   go_wp2_with fail
   refine (CH102.out _).mono ?_
   rintro e wx ⟨rfl, rfl⟩
   by_cases b1 : blocks < 0
   ·have HE : Hid (rr = false) := Lib.hid (by
     rw [Bool.eq_false_iff]
     intro h
     have := HR.out.1 h
     first | (simp at this; done) | omega)
    have g1 : decide (blocks < 0) = true := decide_eq_true b1
    clear b1
    as_aux_lemma =>
     go_wp2_with fail
     go_ret
     exact ⟨by rw [HE.out]; rfl, HBL.out⟩
   have gb1 : decide (blocks < 0) = false := decide_eq_false b1
   have HQb1 := Lib.hid b1
   clear b1
   by_cases b2 : 1048576 < blocks
   ·have HE : Hid (rr = false) := Lib.hid (by
     rw [Bool.eq_false_iff]
     intro h
     have := HR.out.1 h
     first | (simp at this; done) | omega)
    have g1 : decide (1048576 < blocks) = true := decide_eq_true b2
    clear b2
    as_aux_lemma =>
     go_wp2_with fail
     go_ret
     exact ⟨by rw [HE.out]; rfl, HBL.out⟩
   have gb2 : decide (1048576 < blocks) = false := decide_eq_false b2
   have HQb2 := Lib.hid b2
   clear b2
   go_wp2_with fail
   refine (CH98.out _).mono ?_
   rintro e wx ⟨rfl, rfl⟩
   by_cases b0 : blocks = 0
   rotate_left
   ·have HE : Hid (rr = false) := Lib.hid (by
     rw [Bool.eq_false_iff]
     intro h
     have := HR.out.1 h
     first | (simp at this; done) | omega)
    have g1 : (blocks == 0) = false := by rw [beq_eq_false_iff_ne]; omega
    have g2 : (blocks != 0) = true := by rw [bne_iff_ne]; omega
    clear b0
    as_aux_lemma =>
     go_wp2_with fail
     go_ret
     exact ⟨by rw [HE.out]; rfl, HBL.out⟩
   subst b0
   go_wp2_with fail
   refine (CH111.out _).mono ?_
   rintro e wx ⟨rfl, rfl⟩
   go_wp2_with fail
   refine (CH111.out _).mono ?_
   rintro e wx ⟨rfl, rfl⟩
   go_wp2_with (refine wpList_load_met (by kernel_rfl) 70 _ rfl w.heap.size 10 rfl OA _ HRO.out Tryz.underlying70 rfl HIO.out ?_)
   refine (CN.out _ HBL.out).mono ?_
   rintro e w2 ⟨rfl, hb2⟩
   have HBL2 := Lib.hid (bthen HBL.out hb2)
   have HRI2 : Hid (w2.rangeAt w.heap.size 22 IL) := Lib.hid (rangeAt_below HRI.out (Nat.lt_of_lt_of_le HWS.out HB1.out.size) hb2)
   clear HBL hb2 HRO HRI
   have HBL := HBL2
   clear HBL2
   cases bP
   ·have HE : Hid (rr = false) := Lib.hid (by
     rw [Bool.eq_false_iff]
     intro h
     have := HR.out.1 h
     first | (simp at this; done) | omega)
    as_aux_lemma =>
     go_wp2_with fail
     go_ret
     exact ⟨by rw [HE.out]; rfl, HBL.out⟩
   go_wp2_with fail
   refine (CH105.out _).mono ?_
   rintro e wx ⟨rfl, rfl⟩
   go_wp2_with (refine wpList_load_met (by kernel_rfl) 78 _ rfl w.heap.size 22 rfl IL _ HRI2.out Tryz.underlying78 rfl HII.out ?_)
   refine (CJ.out _ HBL.out).mono ?_
   rintro e w3 ⟨rfl, hb3⟩
   have HBL2 := Lib.hid (bthen HBL.out hb3)
   clear HBL hb3
   have HE : Hid (rr = bJ) := Lib.hid (by
    have h := HR.out
    have q1 := HQk1.out
    have q2 := HQk2.out
    have q5 := HQb1.out
    have q6 := HQb2.out
    have q3 := HQf1.out
    have q4 := HQf2.out
    clear HR
    rw [Bool.eq_iff_iff, h]
    clear h
    cases bJ <;> (try simp) <;> (try omega))
   as_aux_lemma =>
    go_wp2_with fail
    go_ret
    exact ⟨by rw [HE.out]; rfl, HBL2.out⟩
 ·skip
  have h116 : hasL [110, 115, 105] 116 = false := rfl
  have h108 : hasL [110, 115, 105] 108 = false := rfl
  have h110 : hasL [110, 115, 105] 110 = true := rfl
  have h115 : hasL [110, 115, 105] 115 = true := rfl
  have h109 : hasL [110, 115, 105] 109 = false := rfl
  have h102 : hasL [110, 115, 105] 102 = false := rfl
  have h98 : hasL [110, 115, 105] 98 = false := rfl
  have h111 : hasL [110, 115, 105] 111 = false := rfl
  have h105 : hasL [110, 115, 105] 105 = true := rfl
  have HR := Lib.hid HR0.out
  simp only [h116, h108, h110, h115, h109, h102, h98, h111, h105, Bool.false_eq_true, false_or, true_or, true_and, and_true, if_true, if_false, reduceIte] at HR
  clear HLC HR0
  as_aux_lemma =>
   go_enter Tryz.func55, Tryz.ntmps55
   go_upto_region 2 with fail
   clear hW0
   by_cases k1 : k < 1
   ·have HE : Hid (rr = false) := Lib.hid (by
     rw [Bool.eq_false_iff]
     intro h
     have := HR.out.1 h
     first | (simp at this; done) | omega)
    have g1 : decide (k < 1) = true := decide_eq_true k1
    clear k1
    as_aux_lemma =>
     go_wp2_with fail
     go_ret
     exact ⟨by rw [HE.out]; rfl, HBL.out⟩
   have gk1 : decide (k < 1) = false := decide_eq_false k1
   have HQk1 := Lib.hid k1
   clear k1
   by_cases k2 : 15 < k
   ·have HE : Hid (rr = false) := Lib.hid (by
     rw [Bool.eq_false_iff]
     intro h
     have := HR.out.1 h
     first | (simp at this; done) | omega)
    have g1 : decide (15 < k) = true := decide_eq_true k2
    clear k2
    as_aux_lemma =>
     go_wp2_with fail
     go_ret
     exact ⟨by rw [HE.out]; rfl, HBL.out⟩
   have gk2 : decide (15 < k) = false := decide_eq_false k2
   have HQk2 := Lib.hid k2
   clear k2
   go_wp2_with fail
   refine (CH116.out _).mono ?_
   rintro e wx ⟨rfl, rfl⟩
   cases bE
   ·have HE : Hid (rr = false) := Lib.hid (by
     rw [Bool.eq_false_iff]
     intro h
     have := HR.out.1 h
     first | (simp at this; done) | omega)
    as_aux_lemma =>
     go_wp2_with fail
     go_ret
     exact ⟨by rw [HE.out]; rfl, HBL.out⟩
   go_wp2_with fail
   refine (CH108.out _).mono ?_
   rintro e wx ⟨rfl, rfl⟩
   cases lead
   rotate_left
   ·have HE : Hid (rr = false) := Lib.hid (by
     rw [Bool.eq_false_iff]
     intro h
     have := HR.out.1 h
     first | (simp at this; done) | omega)
    as_aux_lemma =>
     go_wp2_with fail
     go_ret
     exact ⟨by rw [HE.out]; rfl, HBL.out⟩
   go_wp2_with fail
   refine (CH110.out _).mono ?_
   rintro e wx ⟨rfl, rfl⟩
   go_wp2_with fail
   refine (CH115.out _).mono ?_
   rintro e wx ⟨rfl, rfl⟩
   go_wp2_with fail
   refine (CH109.out _).mono ?_
   rintro e wx ⟨rfl, rfl⟩
   cases bN
   ·have HE : Hid (rr = false) := Lib.hid (by
     rw [Bool.eq_false_iff]
     intro h
     have := HR.out.1 h
     first | (simp at this; done) | omega)
    as_aux_lemma =>
     go_wp2_with fail
     go_ret
     exact ⟨by rw [HE.out]; rfl, HBL.out⟩
   go_wp2_with fail
   refine (CSt.out _).mono ?_
   rintro e w1 ⟨rfl, hb1⟩
   have HB1 := Lib.hid hb1
   clear hb1 c0 c8 c9 c18 c20 c21 a2 a3 a4 a5 a6 a7 hns hnn HBL gk1 gk2
   have HAX := Lib.hid (HAt.out w1 HB1.out)
   have HBL := Lib.hid (bthen HB0.out HB1.out)
   have c17 := HAX.out.c17
   have c19 := HAX.out.c19
   have HRO : Hid (w1.rangeAt w.heap.size 10 OA) := Lib.hid (by have h := HAX.out.r10; rw [HOA.out] at h; exact h)
   have HRI : Hid (w1.rangeAt w.heap.size 22 IL) := Lib.hid (by have h := HAX.out.r22; rw [HIL.out] at h; exact h)
   dsimp only at c17 c19
   clear HAX
   cases bS
   ·have HE : Hid (rr = false) := Lib.hid (by
     rw [Bool.eq_false_iff]
     intro h
     have := HR.out.1 h
     first | (simp at this; done) | omega)
    as_aux_lemma =>
     go_wp2_with fail
     go_ret
     exact ⟨by rw [HE.out]; rfl, HBL.out⟩
   by_cases f1 : fro < 0
   ·have HE : Hid (rr = false) := Lib.hid (by
     rw [Bool.eq_false_iff]
     intro h
     have := HR.out.1 h
     first | (simp at this; done) | omega)
    have g1 : decide (fro < 0) = true := decide_eq_true f1
    clear f1
    as_aux_lemma =>
     go_wp2_with fail
     go_ret
     exact ⟨by rw [HE.out]; rfl, HBL.out⟩
   have gf1 : decide (fro < 0) = false := decide_eq_false f1
   have HQf1 := Lib.hid f1
   clear f1
   by_cases f2 : 2 < fro
   ·have HE : Hid (rr = false) := Lib.hid (by
     rw [Bool.eq_false_iff]
     intro h
     have := HR.out.1 h
     first | (simp at this; done) | omega)
    have g1 : decide (2 < fro) = true := decide_eq_true f2
    clear f2
    as_aux_lemma =>
     go_wp2_with fail
     go_ret
     exact ⟨by rw [HE.out]; rfl, HBL.out⟩
   have gf2 : decide (2 < fro) = false := decide_eq_false f2
   have HQf2 := Lib.hid f2
   clear f2
   go_wp2_with fail
   refine (CH102.out _).mono ?_
   rintro e wx ⟨rfl, rfl⟩
   by_cases f0 : fro = 0
   rotate_left
   ·have HE : Hid (rr = false) := Lib.hid (by
     rw [Bool.eq_false_iff]
     intro h
     have := HR.out.1 h
     first | (simp at this; done) | omega)
    have g1 : (fro == 0) = false := by rw [beq_eq_false_iff_ne]; omega
    have g2 : (fro != 0) = true := by rw [bne_iff_ne]; omega
    clear f0
    as_aux_lemma =>
     go_wp2_with fail
     go_ret
     exact ⟨by rw [HE.out]; rfl, HBL.out⟩
   subst f0
   by_cases b1 : blocks < 0
   ·have HE : Hid (rr = false) := Lib.hid (by
     rw [Bool.eq_false_iff]
     intro h
     have := HR.out.1 h
     first | (simp at this; done) | omega)
    have g1 : decide (blocks < 0) = true := decide_eq_true b1
    clear b1
    as_aux_lemma =>
     go_wp2_with fail
     go_ret
     exact ⟨by rw [HE.out]; rfl, HBL.out⟩
   have gb1 : decide (blocks < 0) = false := decide_eq_false b1
   have HQb1 := Lib.hid b1
   clear b1
   by_cases b2 : 1048576 < blocks
   ·have HE : Hid (rr = false) := Lib.hid (by
     rw [Bool.eq_false_iff]
     intro h
     have := HR.out.1 h
     first | (simp at this; done) | omega)
    have g1 : decide (1048576 < blocks) = true := decide_eq_true b2
    clear b2
    as_aux_lemma =>
     go_wp2_with fail
     go_ret
     exact ⟨by rw [HE.out]; rfl, HBL.out⟩
   have gb2 : decide (1048576 < blocks) = false := decide_eq_false b2
   have HQb2 := Lib.hid b2
   clear b2
   go_wp2_with fail
   refine (CH98.out _).mono ?_
   rintro e wx ⟨rfl, rfl⟩
   by_cases b0 : blocks = 0
   rotate_left
   ·have HE : Hid (rr = false) := Lib.hid (by
     rw [Bool.eq_false_iff]
     intro h
     have := HR.out.1 h
     first | (simp at this; done) | omega)
    have g1 : (blocks == 0) = false := by rw [beq_eq_false_iff_ne]; omega
    have g2 : (blocks != 0) = true := by rw [bne_iff_ne]; omega
    clear b0
    as_aux_lemma =>
     go_wp2_with fail
     go_ret
     exact ⟨by rw [HE.out]; rfl, HBL.out⟩
   subst b0
   go_wp2_with fail
   refine (CH111.out _).mono ?_
   rintro e wx ⟨rfl, rfl⟩
   go_wp2_with fail
   refine (CH111.out _).mono ?_
   rintro e wx ⟨rfl, rfl⟩
   go_wp2_with (refine wpList_load_met (by kernel_rfl) 70 _ rfl w.heap.size 10 rfl OA _ HRO.out Tryz.underlying70 rfl HIO.out ?_)
   refine (CN.out _ HBL.out).mono ?_
   rintro e w2 ⟨rfl, hb2⟩
   have HBL2 := Lib.hid (bthen HBL.out hb2)
   have HRI2 : Hid (w2.rangeAt w.heap.size 22 IL) := Lib.hid (rangeAt_below HRI.out (Nat.lt_of_lt_of_le HWS.out HB1.out.size) hb2)
   clear HBL hb2 HRO HRI
   have HBL := HBL2
   clear HBL2
   cases bP
   ·have HE : Hid (rr = false) := Lib.hid (by
     rw [Bool.eq_false_iff]
     intro h
     have := HR.out.1 h
     first | (simp at this; done) | omega)
    as_aux_lemma =>
     go_wp2_with fail
     go_ret
     exact ⟨by rw [HE.out]; rfl, HBL.out⟩
   go_wp2_with fail
   refine (CH105.out _).mono ?_
   rintro e wx ⟨rfl, rfl⟩
   go_wp2_with (refine wpList_load_met (by kernel_rfl) 78 _ rfl w.heap.size 22 rfl IL _ HRI2.out Tryz.underlying78 rfl HII.out ?_)
   refine (CI.out _ HBL.out).mono ?_
   rintro e w3 ⟨rfl, hb3⟩
   have HBL2 := Lib.hid (bthen HBL.out hb3)
   clear HBL hb3
   have HE : Hid (rr = bI) := Lib.hid (by
    have h := HR.out
    have q1 := HQk1.out
    have q2 := HQk2.out
    have q5 := HQb1.out
    have q6 := HQb2.out
    have q3 := HQf1.out
    have q4 := HQf2.out
    clear HR
    rw [Bool.eq_iff_iff, h]
    clear h
    cases bI <;> (try simp) <;> (try omega))
   as_aux_lemma =>
    go_wp2_with fail
    go_ret
    exact ⟨by rw [HE.out]; rfl, HBL2.out⟩
 ·skip
  have h116 : hasL [110, 115] 116 = false := rfl
  have h108 : hasL [110, 115] 108 = false := rfl
  have h110 : hasL [110, 115] 110 = true := rfl
  have h115 : hasL [110, 115] 115 = true := rfl
  have h109 : hasL [110, 115] 109 = false := rfl
  have h102 : hasL [110, 115] 102 = false := rfl
  have h98 : hasL [110, 115] 98 = false := rfl
  have h111 : hasL [110, 115] 111 = false := rfl
  have h105 : hasL [110, 115] 105 = false := rfl
  have HR := Lib.hid HR0.out
  simp only [h116, h108, h110, h115, h109, h102, h98, h111, h105, Bool.false_eq_true, false_or, true_or, true_and, and_true, if_true, if_false, reduceIte] at HR
  clear HLC HR0
  as_aux_lemma =>
   go_enter Tryz.func55, Tryz.ntmps55
   go_upto_region 2 with fail
   clear hW0
   by_cases k1 : k < 1
   ·have HE : Hid (rr = false) := Lib.hid (by
     rw [Bool.eq_false_iff]
     intro h
     have := HR.out.1 h
     first | (simp at this; done) | omega)
    have g1 : decide (k < 1) = true := decide_eq_true k1
    clear k1
    as_aux_lemma =>
     go_wp2_with fail
     go_ret
     exact ⟨by rw [HE.out]; rfl, HBL.out⟩
   have gk1 : decide (k < 1) = false := decide_eq_false k1
   have HQk1 := Lib.hid k1
   clear k1
   by_cases k2 : 15 < k
   ·have HE : Hid (rr = false) := Lib.hid (by
     rw [Bool.eq_false_iff]
     intro h
     have := HR.out.1 h
     first | (simp at this; done) | omega)
    have g1 : decide (15 < k) = true := decide_eq_true k2
    clear k2
    as_aux_lemma =>
     go_wp2_with fail
     go_ret
     exact ⟨by rw [HE.out]; rfl, HBL.out⟩
   have gk2 : decide (15 < k) = false := decide_eq_false k2
   have HQk2 := Lib.hid k2
   clear k2
   go_wp2_with fail
   refine (CH116.out _).mono ?_
   rintro e wx ⟨rfl, rfl⟩
   cases bE
   ·have HE : Hid (rr = false) := Lib.hid (by
     rw [Bool.eq_false_iff]
     intro h
     have := HR.out.1 h
     first | (simp at this; done) | omega)
    as_aux_lemma =>
     go_wp2_with fail
     go_ret
     exact ⟨by rw [HE.out]; rfl, HBL.out⟩
   go_wp2_with fail
   refine (CH108.out _).mono ?_
   rintro e wx ⟨rfl, rfl⟩
   cases lead
   rotate_left
   ·have HE : Hid (rr = false) := Lib.hid (by
     rw [Bool.eq_false_iff]
     intro h
     have := HR.out.1 h
     first | (simp at this; done) | omega)
    as_aux_lemma =>
     go_wp2_with fail
     go_ret
     exact ⟨by rw [HE.out]; rfl, HBL.out⟩
   go_wp2_with fail
   refine (CH110.out _).mono ?_
   rintro e wx ⟨rfl, rfl⟩
   go_wp2_with fail
   refine (CH115.out _).mono ?_
   rintro e wx ⟨rfl, rfl⟩
   go_wp2_with fail
   refine (CH109.out _).mono ?_
   rintro e wx ⟨rfl, rfl⟩
   cases bN
   ·have HE : Hid (rr = false) := Lib.hid (by
     rw [Bool.eq_false_iff]
     intro h
     have := HR.out.1 h
     first | (simp at this; done) | omega)
    as_aux_lemma =>
     go_wp2_with fail
     go_ret
     exact ⟨by rw [HE.out]; rfl, HBL.out⟩
   go_wp2_with fail
   refine (CSt.out _).mono ?_
   rintro e w1 ⟨rfl, hb1⟩
   have HB1 := Lib.hid hb1
   clear hb1 c0 c8 c9 c18 c20 c21 a2 a3 a4 a5 a6 a7 hns hnn HBL gk1 gk2
   have HAX := Lib.hid (HAt.out w1 HB1.out)
   have HBL := Lib.hid (bthen HB0.out HB1.out)
   have c17 := HAX.out.c17
   have c19 := HAX.out.c19
   have HRO : Hid (w1.rangeAt w.heap.size 10 OA) := Lib.hid (by have h := HAX.out.r10; rw [HOA.out] at h; exact h)
   have HRI : Hid (w1.rangeAt w.heap.size 22 IL) := Lib.hid (by have h := HAX.out.r22; rw [HIL.out] at h; exact h)
   dsimp only at c17 c19
   clear HAX
   cases bS
   ·have HE : Hid (rr = false) := Lib.hid (by
     rw [Bool.eq_false_iff]
     intro h
     have := HR.out.1 h
     first | (simp at this; done) | omega)
    as_aux_lemma =>
     go_wp2_with fail
     go_ret
     exact ⟨by rw [HE.out]; rfl, HBL.out⟩
   by_cases f1 : fro < 0
   ·have HE : Hid (rr = false) := Lib.hid (by
     rw [Bool.eq_false_iff]
     intro h
     have := HR.out.1 h
     first | (simp at this; done) | omega)
    have g1 : decide (fro < 0) = true := decide_eq_true f1
    clear f1
    as_aux_lemma =>
     go_wp2_with fail
     go_ret
     exact ⟨by rw [HE.out]; rfl, HBL.out⟩
   have gf1 : decide (fro < 0) = false := decide_eq_false f1
   have HQf1 := Lib.hid f1
   clear f1
   by_cases f2 : 2 < fro
   ·have HE : Hid (rr = false) := Lib.hid (by
     rw [Bool.eq_false_iff]
     intro h
     have := HR.out.1 h
     first | (simp at this; done) | omega)
    have g1 : decide (2 < fro) = true := decide_eq_true f2
    clear f2
    as_aux_lemma =>
     go_wp2_with fail
     go_ret
     exact ⟨by rw [HE.out]; rfl, HBL.out⟩
   have gf2 : decide (2 < fro) = false := decide_eq_false f2
   have HQf2 := Lib.hid f2
   clear f2
   go_wp2_with fail
   refine (CH102.out _).mono ?_
   rintro e wx ⟨rfl, rfl⟩
   by_cases f0 : fro = 0
   rotate_left
   ·have HE : Hid (rr = false) := Lib.hid (by
     rw [Bool.eq_false_iff]
     intro h
     have := HR.out.1 h
     first | (simp at this; done) | omega)
    have g1 : (fro == 0) = false := by rw [beq_eq_false_iff_ne]; omega
    have g2 : (fro != 0) = true := by rw [bne_iff_ne]; omega
    clear f0
    as_aux_lemma =>
     go_wp2_with fail
     go_ret
     exact ⟨by rw [HE.out]; rfl, HBL.out⟩
   subst f0
   by_cases b1 : blocks < 0
   ·have HE : Hid (rr = false) := Lib.hid (by
     rw [Bool.eq_false_iff]
     intro h
     have := HR.out.1 h
     first | (simp at this; done) | omega)
    have g1 : decide (blocks < 0) = true := decide_eq_true b1
    clear b1
    as_aux_lemma =>
     go_wp2_with fail
     go_ret
     exact ⟨by rw [HE.out]; rfl, HBL.out⟩
   have gb1 : decide (blocks < 0) = false := decide_eq_false b1
   have HQb1 := Lib.hid b1
   clear b1
   by_cases b2 : 1048576 < blocks
   ·have HE : Hid (rr = false) := Lib.hid (by
     rw [Bool.eq_false_iff]
     intro h
     have := HR.out.1 h
     first | (simp at this; done) | omega)
    have g1 : decide (1048576 < blocks) = true := decide_eq_true b2
    clear b2
    as_aux_lemma =>
     go_wp2_with fail
     go_ret
     exact ⟨by rw [HE.out]; rfl, HBL.out⟩
   have gb2 : decide (1048576 < blocks) = false := decide_eq_false b2
   have HQb2 := Lib.hid b2
   clear b2
   go_wp2_with fail
   refine (CH98.out _).mono ?_
   rintro e wx ⟨rfl, rfl⟩
   by_cases b0 : blocks = 0
   rotate_left
   ·have HE : Hid (rr = false) := Lib.hid (by
     rw [Bool.eq_false_iff]
     intro h
     have := HR.out.1 h
     first | (simp at this; done) | omega)
    have g1 : (blocks == 0) = false := by rw [beq_eq_false_iff_ne]; omega
    have g2 : (blocks != 0) = true := by rw [bne_iff_ne]; omega
    clear b0
    as_aux_lemma =>
     go_wp2_with fail
     go_ret
     exact ⟨by rw [HE.out]; rfl, HBL.out⟩
   subst b0
   go_wp2_with fail
   refine (CH111.out _).mono ?_
   rintro e wx ⟨rfl, rfl⟩
   go_wp2_with fail
   refine (CH111.out _).mono ?_
   rintro e wx ⟨rfl, rfl⟩
   go_wp2_with (refine wpList_load_met (by kernel_rfl) 70 _ rfl w.heap.size 10 rfl OA _ HRO.out Tryz.underlying70 rfl HIO.out ?_)
   refine (CN.out _ HBL.out).mono ?_
   rintro e w2 ⟨rfl, hb2⟩
   have HBL2 := Lib.hid (bthen HBL.out hb2)
   have HRI2 : Hid (w2.rangeAt w.heap.size 22 IL) := Lib.hid (rangeAt_below HRI.out (Nat.lt_of_lt_of_le HWS.out HB1.out.size) hb2)
   clear HBL hb2 HRO HRI
   have HBL := HBL2
   clear HBL2
   cases bP
   ·have HE : Hid (rr = false) := Lib.hid (by
     rw [Bool.eq_false_iff]
     intro h
     have := HR.out.1 h
     first | (simp at this; done) | omega)
    as_aux_lemma =>
     go_wp2_with fail
     go_ret
     exact ⟨by rw [HE.out]; rfl, HBL.out⟩
   go_wp2_with fail
   refine (CH105.out _).mono ?_
   rintro e wx ⟨rfl, rfl⟩
   go_wp2_with (refine wpList_load_met (by kernel_rfl) 78 _ rfl w.heap.size 22 rfl IL _ HRI2.out Tryz.underlying78 rfl HII.out ?_)
   refine (CJ.out _ HBL.out).mono ?_
   rintro e w3 ⟨rfl, hb3⟩
   have HBL2 := Lib.hid (bthen HBL.out hb3)
   clear HBL hb3
   have HE : Hid (rr = bJ) := Lib.hid (by
    have h := HR.out
    have q1 := HQk1.out
    have q2 := HQk2.out
    have q5 := HQb1.out
    have q6 := HQb2.out
    have q3 := HQf1.out
    have q4 := HQf2.out
    clear HR
    rw [Bool.eq_iff_iff, h]
    clear h
    cases bJ <;> (try simp) <;> (try omega))
   as_aux_lemma =>
    go_wp2_with fail
    go_ret
    exact ⟨by rw [HE.out]; rfl, HBL2.out⟩
 ·skip
  have h116 : hasL [110, 115, 109] 116 = false := rfl
  have h108 : hasL [110, 115, 109] 108 = false := rfl
  have h110 : hasL [110, 115, 109] 110 = true := rfl
  have h115 : hasL [110, 115, 109] 115 = true := rfl
  have h109 : hasL [110, 115, 109] 109 = true := rfl
  have h102 : hasL [110, 115, 109] 102 = false := rfl
  have h98 : hasL [110, 115, 109] 98 = false := rfl
  have h111 : hasL [110, 115, 109] 111 = false := rfl
  have h105 : hasL [110, 115, 109] 105 = false := rfl
  have HR := Lib.hid HR0.out
  simp only [h116, h108, h110, h115, h109, h102, h98, h111, h105, Bool.false_eq_true, false_or, true_or, true_and, and_true, if_true, if_false, reduceIte] at HR
  clear HLC HR0
  as_aux_lemma =>
   go_enter Tryz.func55, Tryz.ntmps55
   go_upto_region 2 with fail
   clear hW0
   by_cases k1 : k < 1
   ·have HE : Hid (rr = false) := Lib.hid (by
     rw [Bool.eq_false_iff]
     intro h
     have := HR.out.1 h
     first | (simp at this; done) | omega)
    have g1 : decide (k < 1) = true := decide_eq_true k1
    clear k1
    as_aux_lemma =>
     go_wp2_with fail
     go_ret
     exact ⟨by rw [HE.out]; rfl, HBL.out⟩
   have gk1 : decide (k < 1) = false := decide_eq_false k1
   have HQk1 := Lib.hid k1
   clear k1
   by_cases k2 : 15 < k
   ·have HE : Hid (rr = false) := Lib.hid (by
     rw [Bool.eq_false_iff]
     intro h
     have := HR.out.1 h
     first | (simp at this; done) | omega)
    have g1 : decide (15 < k) = true := decide_eq_true k2
    clear k2
    as_aux_lemma =>
     go_wp2_with fail
     go_ret
     exact ⟨by rw [HE.out]; rfl, HBL.out⟩
   have gk2 : decide (15 < k) = false := decide_eq_false k2
   have HQk2 := Lib.hid k2
   clear k2
   go_wp2_with fail
   refine (CH116.out _).mono ?_
   rintro e wx ⟨rfl, rfl⟩
   cases bE
   ·have HE : Hid (rr = false) := Lib.hid (by
     rw [Bool.eq_false_iff]
     intro h
     have := HR.out.1 h
     first | (simp at this; done) | omega)
    as_aux_lemma =>
     go_wp2_with fail
     go_ret
     exact ⟨by rw [HE.out]; rfl, HBL.out⟩
   go_wp2_with fail
   refine (CH108.out _).mono ?_
   rintro e wx ⟨rfl, rfl⟩
   cases lead
   rotate_left
   ·have HE : Hid (rr = false) := Lib.hid (by
     rw [Bool.eq_false_iff]
     intro h
     have := HR.out.1 h
     first | (simp at this; done) | omega)
    as_aux_lemma =>
     go_wp2_with fail
     go_ret
     exact ⟨by rw [HE.out]; rfl, HBL.out⟩
   go_wp2_with fail
   refine (CH110.out _).mono ?_
   rintro e wx ⟨rfl, rfl⟩
   go_wp2_with fail
   refine (CH115.out _).mono ?_
   rintro e wx ⟨rfl, rfl⟩
   go_wp2_with fail
   refine (CH109.out _).mono ?_
   rintro e wx ⟨rfl, rfl⟩
   go_wp2_with fail
   refine (CSt.out _).mono ?_
   rintro e w1 ⟨rfl, hb1⟩
   have HB1 := Lib.hid hb1
   clear hb1 c0 c8 c9 c18 c20 c21 a2 a3 a4 a5 a6 a7 hns hnn HBL gk1 gk2
   have HAX := Lib.hid (HAt.out w1 HB1.out)
   have HBL := Lib.hid (bthen HB0.out HB1.out)
   have c17 := HAX.out.c17
   have c19 := HAX.out.c19
   have HRO : Hid (w1.rangeAt w.heap.size 10 OA) := Lib.hid (by have h := HAX.out.r10; rw [HOA.out] at h; exact h)
   have HRI : Hid (w1.rangeAt w.heap.size 22 IL) := Lib.hid (by have h := HAX.out.r22; rw [HIL.out] at h; exact h)
   dsimp only at c17 c19
   clear HAX
   cases bS
   ·have HE : Hid (rr = false) := Lib.hid (by
     rw [Bool.eq_false_iff]
     intro h
     have := HR.out.1 h
     first | (simp at this; done) | omega)
    as_aux_lemma =>
     go_wp2_with fail
     go_ret
     exact ⟨by rw [HE.out]; rfl, HBL.out⟩
   by_cases f1 : fro < 0
   ·have HE : Hid (rr = false) := Lib.hid (by
     rw [Bool.eq_false_iff]
     intro h
     have := HR.out.1 h
     first | (simp at this; done) | omega)
    have g1 : decide (fro < 0) = true := decide_eq_true f1
    clear f1
    as_aux_lemma =>
     go_wp2_with fail
     go_ret
     exact ⟨by rw [HE.out]; rfl, HBL.out⟩
   have gf1 : decide (fro < 0) = false := decide_eq_false f1
   have HQf1 := Lib.hid f1
   clear f1
   by_cases f2 : 2 < fro
   ·have HE : Hid (rr = false) := Lib.hid (by
     rw [Bool.eq_false_iff]
     intro h
     have := HR.out.1 h
     first | (simp at this; done) | omega)
    have g1 : decide (2 < fro) = true := decide_eq_true f2
    clear f2
    as_aux_lemma =>
     go_wp2_with fail
     go_ret
     exact ⟨by rw [HE.out]; rfl, HBL.out⟩
   have gf2 : decide (2 < fro) = false := decide_eq_false f2
   have HQf2 := Lib.hid f2
   clear f2
   go_wp2_with fail
   refine (CH102.out _).mono ?_
   rintro e wx ⟨rfl, rfl⟩
   by_cases f0 : fro = 0
   rotate_left
   ·have HE : Hid (rr = false) := Lib.hid (by
     rw [Bool.eq_false_iff]
     intro h
     have := HR.out.1 h
     first | (simp at this; done) | omega)
    have g1 : (fro == 0) = false := by rw [beq_eq_false_iff_ne]; omega
    have g2 : (fro != 0) = true := by rw [bne_iff_ne]; omega
    clear f0
    as_aux_lemma =>
     go_wp2_with fail
     go_ret
     exact ⟨by rw [HE.out]; rfl, HBL.out⟩
   subst f0
   by_cases b1 : blocks < 0
   ·have HE : Hid (rr = false) := Lib.hid (by
     rw [Bool.eq_false_iff]
     intro h
     have := HR.out.1 h
     first | (simp at this; done) | omega)
    have g1 : decide (blocks < 0) = true := decide_eq_true b1
    clear b1
    as_aux_lemma =>
     go_wp2_with fail
     go_ret
     exact ⟨by rw [HE.out]; rfl, HBL.out⟩
   have gb1 : decide (blocks < 0) = false := decide_eq_false b1
   have HQb1 := Lib.hid b1
   clear b1
   by_cases b2 : 1048576 < blocks
   ·have HE : Hid (rr = false) := Lib.hid (by
     rw [Bool.eq_false_iff]
     intro h
     have := HR.out.1 h
     first | (simp at this; done) | omega)
    have g1 : decide (1048576 < blocks) = true := decide_eq_true b2
    clear b2
    as_aux_lemma =>
     go_wp2_with fail
     go_ret
     exact ⟨by rw [HE.out]; rfl, HBL.out⟩
   have gb2 : decide (1048576 < blocks) = false := decide_eq_false b2
   have HQb2 := Lib.hid b2
   clear b2
   go_wp2_with fail
   refine (CH98.out _).mono ?_
   rintro e wx ⟨rfl, rfl⟩
   by_cases b0 : blocks = 0
   rotate_left
   ·have HE : Hid (rr = false) := Lib.hid (by
     rw [Bool.eq_false_iff]
     intro h
     have := HR.out.1 h
     first | (simp at this; done) | omega)
    have g1 : (blocks == 0) = false := by rw [beq_eq_false_iff_ne]; omega
    have g2 : (blocks != 0) = true := by rw [bne_iff_ne]; omega
    clear b0
    as_aux_lemma =>
     go_wp2_with fail
     go_ret
     exact ⟨by rw [HE.out]; rfl, HBL.out⟩
   subst b0
   go_wp2_with fail
   refine (CH111.out _).mono ?_
   rintro e wx ⟨rfl, rfl⟩
   go_wp2_with fail
   refine (CH111.out _).mono ?_
   rintro e wx ⟨rfl, rfl⟩
   go_wp2_with (refine wpList_load_met (by kernel_rfl) 70 _ rfl w.heap.size 10 rfl OA _ HRO.out Tryz.underlying70 rfl HIO.out ?_)
   refine (CN.out _ HBL.out).mono ?_
   rintro e w2 ⟨rfl, hb2⟩
   have HBL2 := Lib.hid (bthen HBL.out hb2)
   have HRI2 : Hid (w2.rangeAt w.heap.size 22 IL) := Lib.hid (rangeAt_below HRI.out (Nat.lt_of_lt_of_le HWS.out HB1.out.size) hb2)
   clear HBL hb2 HRO HRI
   have HBL := HBL2
   clear HBL2
   cases bP
   ·have HE : Hid (rr = false) := Lib.hid (by
     rw [Bool.eq_false_iff]
     intro h
     have := HR.out.1 h
     first | (simp at this; done) | omega)
    as_aux_lemma =>
     go_wp2_with fail
     go_ret
     exact ⟨by rw [HE.out]; rfl, HBL.out⟩
   go_wp2_with fail
   refine (CH105.out _).mono ?_
   rintro e wx ⟨rfl, rfl⟩
   go_wp2_with (refine wpList_load_met (by kernel_rfl) 78 _ rfl w.heap.size 22 rfl IL _ HRI2.out Tryz.underlying78 rfl HII.out ?_)
   refine (CJ.out _ HBL.out).mono ?_
   rintro e w3 ⟨rfl, hb3⟩
   have HBL2 := Lib.hid (bthen HBL.out hb3)
   clear HBL hb3
   have HE : Hid (rr = bJ) := Lib.hid (by
    have h := HR.out
    have q1 := HQk1.out
    have q2 := HQk2.out
    have q5 := HQb1.out
    have q6 := HQb2.out
    have q3 := HQf1.out
    have q4 := HQf2.out
    clear HR
    rw [Bool.eq_iff_iff, h]
    clear h
    cases bJ <;> (try simp) <;> (try omega))
   as_aux_lemma =>
    go_wp2_with fail
    go_ret
    exact ⟨by rw [HE.out]; rfl, HBL2.out⟩
 ·skip
  have h116 : hasL [110, 109] 116 = false := rfl
  have h108 : hasL [110, 109] 108 = false := rfl
  have h110 : hasL [110, 109] 110 = true := rfl
  have h115 : hasL [110, 109] 115 = false := rfl
  have h109 : hasL [110, 109] 109 = true := rfl
  have h102 : hasL [110, 109] 102 = false := rfl
  have h98 : hasL [110, 109] 98 = false := rfl
  have h111 : hasL [110, 109] 111 = false := rfl
  have h105 : hasL [110, 109] 105 = false := rfl
  have HR := Lib.hid HR0.out
  simp only [h116, h108, h110, h115, h109, h102, h98, h111, h105, Bool.false_eq_true, false_or, true_or, true_and, and_true, if_true, if_false, reduceIte] at HR
  clear HLC HR0
  as_aux_lemma =>
   go_enter Tryz.func55, Tryz.ntmps55
   go_upto_region 2 with fail
   clear hW0
   by_cases k1 : k < 1
   ·have HE : Hid (rr = false) := Lib.hid (by
     rw [Bool.eq_false_iff]
     intro h
     have := HR.out.1 h
     first | (simp at this; done) | omega)
    have g1 : decide (k < 1) = true := decide_eq_true k1
    clear k1
    as_aux_lemma =>
     go_wp2_with fail
     go_ret
     exact ⟨by rw [HE.out]; rfl, HBL.out⟩
   have gk1 : decide (k < 1) = false := decide_eq_false k1
   have HQk1 := Lib.hid k1
   clear k1
   by_cases k2 : 15 < k
   ·have HE : Hid (rr = false) := Lib.hid (by
     rw [Bool.eq_false_iff]
     intro h
     have := HR.out.1 h
     first | (simp at this; done) | omega)
    have g1 : decide (15 < k) = true := decide_eq_true k2
    clear k2
    as_aux_lemma =>
     go_wp2_with fail
     go_ret
     exact ⟨by rw [HE.out]; rfl, HBL.out⟩
   have gk2 : decide (15 < k) = false := decide_eq_false k2
   have HQk2 := Lib.hid k2
   clear k2
   go_wp2_with fail
   refine (CH116.out _).mono ?_
   rintro e wx ⟨rfl, rfl⟩
   cases bE
   ·have HE : Hid (rr = false) := Lib.hid (by
     rw [Bool.eq_false_iff]
     intro h
     have := HR.out.1 h
     first | (simp at this; done) | omega)
    as_aux_lemma =>
     go_wp2_with fail
     go_ret
     exact ⟨by rw [HE.out]; rfl, HBL.out⟩
   go_wp2_with fail
   refine (CH108.out _).mono ?_
   rintro e wx ⟨rfl, rfl⟩
   cases lead
   rotate_left
   ·have HE : Hid (rr = false) := Lib.hid (by
     rw [Bool.eq_false_iff]
     intro h
     have := HR.out.1 h
     first | (simp at this; done) | omega)
    as_aux_lemma =>
     go_wp2_with fail
     go_ret
     exact ⟨by rw [HE.out]; rfl, HBL.out⟩
   go_wp2_with fail
   refine (CH110.out _).mono ?_
   rintro e wx ⟨rfl, rfl⟩
   go_wp2_with fail
   refine (CH115.out _).mono ?_
   rintro e wx ⟨rfl, rfl⟩
   by_cases s0 : seq = 0
   rotate_left
   ·have HE : Hid (rr = false) := Lib.hid (by
     rw [Bool.eq_false_iff]
     intro h
     have := HR.out.1 h
     first | (simp at this; done) | omega)
    have g1 : ((seq : Int) == 0) = false := by rw [beq_eq_false_iff_ne]; omega
    have g2 : ((seq : Int) != 0) = true := by rw [bne_iff_ne]; omega
    clear s0
    as_aux_lemma =>
     go_wp2_with fail
     go_ret
     exact ⟨by rw [HE.out]; rfl, HBL.out⟩
   subst s0
   go_wp2_with fail
   refine (CH109.out _).mono ?_
   rintro e wx ⟨rfl, rfl⟩
   go_wp2_with fail
   refine (CSt.out _).mono ?_
   rintro e w1 ⟨rfl, hb1⟩
   have HB1 := Lib.hid hb1
   clear hb1 c0 c8 c9 c18 c20 c21 a2 a3 a4 a5 a6 a7 hns hnn HBL gk1 gk2
   have HAX := Lib.hid (HAt.out w1 HB1.out)
   have HBL := Lib.hid (bthen HB0.out HB1.out)
   have c17 := HAX.out.c17
   have c19 := HAX.out.c19
   have HRO : Hid (w1.rangeAt w.heap.size 10 OA) := Lib.hid (by have h := HAX.out.r10; rw [HOA.out] at h; exact h)
   have HRI : Hid (w1.rangeAt w.heap.size 22 IL) := Lib.hid (by have h := HAX.out.r22; rw [HIL.out] at h; exact h)
   dsimp only at c17 c19
   clear HAX
   cases bS
   ·have HE : Hid (rr = false) := Lib.hid (by
     rw [Bool.eq_false_iff]
     intro h
     have := HR.out.1 h
     first | (simp at this; done) | omega)
    as_aux_lemma =>
     go_wp2_with fail
     go_ret
     exact ⟨by rw [HE.out]; rfl, HBL.out⟩
   by_cases f1 : fro < 0
   ·have HE : Hid (rr = false) := Lib.hid (by
     rw [Bool.eq_false_iff]
     intro h
     have := HR.out.1 h
     first | (simp at this; done) | omega)
    have g1 : decide (fro < 0) = true := decide_eq_true f1
    clear f1
    as_aux_lemma =>
     go_wp2_with fail
     go_ret
     exact ⟨by rw [HE.out]; rfl, HBL.out⟩
   have gf1 : decide (fro < 0) = false := decide_eq_false f1
   have HQf1 := Lib.hid f1
   clear f1
   by_cases f2 : 2 < fro
   ·have HE : Hid (rr = false) := Lib.hid (by
     rw [Bool.eq_false_iff]
     intro h
     have := HR.out.1 h
     first | (simp at this; done) | omega)
    have g1 : decide (2 < fro) = true := decide_eq_true f2
    clear f2
    as_aux_lemma =>
     go_wp2_with fail
     go_ret
     exact ⟨by rw [HE.out]; rfl, HBL.out⟩
   have gf2 : decide (2 < fro) = false := decide_eq_false f2
   have HQf2 := Lib.hid f2
   clear f2
   go_wp2_with fail
   refine (CH102.out _).mono ?_
   rintro e wx ⟨rfl, rfl⟩
   by_cases f0 : fro = 0
   rotate_left
   ·have HE : Hid (rr = false) := Lib.hid (by
     rw [Bool.eq_false_iff]
     intro h
     have := HR.out.1 h
     first | (simp at this; done) | omega)
    have g1 : (fro == 0) = false := by rw [beq_eq_false_iff_ne]; omega
    have g2 : (fro != 0) = true := by rw [bne_iff_ne]; omega
    clear f0
    as_aux_lemma =>
     go_wp2_with fail
     go_ret
     exact ⟨by rw [HE.out]; rfl, HBL.out⟩
   subst f0
   by_cases b1 : blocks < 0
   ·have HE : Hid (rr = false) := Lib.hid (by
     rw [Bool.eq_false_iff]
     intro h
     have := HR.out.1 h
     first | (simp at this; done) | omega)
    have g1 : decide (blocks < 0) = true := decide_eq_true b1
    clear b1
    as_aux_lemma =>
     go_wp2_with fail
     go_ret
     exact ⟨by rw [HE.out]; rfl, HBL.out⟩
   have gb1 : decide (blocks < 0) = false := decide_eq_false b1
   have HQb1 := Lib.hid b1
   clear b1
   by_cases b2 : 1048576 < blocks
   ·have HE : Hid (rr = false) := Lib.hid (by
     rw [Bool.eq_false_iff]
     intro h
     have := HR.out.1 h
     first | (simp at this; done) | omega)
    have g1 : decide (1048576 < blocks) = true := decide_eq_true b2
    clear b2
    as_aux_lemma =>
     go_wp2_with fail
     go_ret
     exact ⟨by rw [HE.out]; rfl, HBL.out⟩
   have gb2 : decide (1048576 < blocks) = false := decide_eq_false b2
   have HQb2 := Lib.hid b2
   clear b2
   go_wp2_with fail
   refine (CH98.out _).mono ?_
   rintro e wx ⟨rfl, rfl⟩
   by_cases b0 : blocks = 0
   rotate_left
   ·have HE : Hid (rr = false) := Lib.hid (by
     rw [Bool.eq_false_iff]
     intro h
     have := HR.out.1 h
     first | (simp at this; done) | omega)
    have g1 : (blocks == 0) = false := by rw [beq_eq_false_iff_ne]; omega
    have g2 : (blocks != 0) = true := by rw [bne_iff_ne]; omega
    clear b0
    as_aux_lemma =>
     go_wp2_with fail
     go_ret
     exact ⟨by rw [HE.out]; rfl, HBL.out⟩
   subst b0
   go_wp2_with fail
   refine (CH111.out _).mono ?_
   rintro e wx ⟨rfl, rfl⟩
   go_wp2_with fail
   refine (CH111.out _).mono ?_
   rintro e wx ⟨rfl, rfl⟩
   go_wp2_with (refine wpList_load_met (by kernel_rfl) 70 _ rfl w.heap.size 10 rfl OA _ HRO.out Tryz.underlying70 rfl HIO.out ?_)
   refine (CN.out _ HBL.out).mono ?_
   rintro e w2 ⟨rfl, hb2⟩
   have HBL2 := Lib.hid (bthen HBL.out hb2)
   have HRI2 : Hid (w2.rangeAt w.heap.size 22 IL) := Lib.hid (rangeAt_below HRI.out (Nat.lt_of_lt_of_le HWS.out HB1.out.size) hb2)
   clear HBL hb2 HRO HRI
   have HBL := HBL2
   clear HBL2
   cases bP
   ·have HE : Hid (rr = false) := Lib.hid (by
     rw [Bool.eq_false_iff]
     intro h
     have := HR.out.1 h
     first | (simp at this; done) | omega)
    as_aux_lemma =>
     go_wp2_with fail
     go_ret
     exact ⟨by rw [HE.out]; rfl, HBL.out⟩
   go_wp2_with fail
   refine (CH105.out _).mono ?_
   rintro e wx ⟨rfl, rfl⟩
   go_wp2_with (refine wpList_load_met (by kernel_rfl) 78 _ rfl w.heap.size 22 rfl IL _ HRI2.out Tryz.underlying78 rfl HII.out ?_)
   refine (CJ.out _ HBL.out).mono ?_
   rintro e w3 ⟨rfl, hb3⟩
   have HBL2 := Lib.hid (bthen HBL.out hb3)
   clear HBL hb3
   have HE : Hid (rr = bJ) := Lib.hid (by
    have h := HR.out
    have q1 := HQk1.out
    have q2 := HQk2.out
    have q5 := HQb1.out
    have q6 := HQb2.out
    have q3 := HQf1.out
    have q4 := HQf2.out
    clear HR
    rw [Bool.eq_iff_iff, h]
    clear h
    cases bJ <;> (try simp) <;> (try omega))
   as_aux_lemma =>
    go_wp2_with fail
    go_ret
    exact ⟨by rw [HE.out]; rfl, HBL2.out⟩
 ·skip
  have h116 : hasL [] 116 = false := rfl
  have h108 : hasL [] 108 = false := rfl
  have h110 : hasL [] 110 = false := rfl
  have h115 : hasL [] 115 = false := rfl
  have h109 : hasL [] 109 = false := rfl
  have h102 : hasL [] 102 = false := rfl
  have h98 : hasL [] 98 = false := rfl
  have h111 : hasL [] 111 = false := rfl
  have h105 : hasL [] 105 = false := rfl
  have HR := Lib.hid HR0.out
  simp only [h116, h108, h110, h115, h109, h102, h98, h111, h105, Bool.false_eq_true, false_or, true_or, true_and, and_true, if_true, if_false, reduceIte] at HR
  clear HLC HR0
  as_aux_lemma =>
   go_enter Tryz.func55, Tryz.ntmps55
   go_upto_region 2 with fail
   clear hW0
   by_cases k1 : k < 1
   ·have HE : Hid (rr = false) := Lib.hid (by
     rw [Bool.eq_false_iff]
     intro h
     have := HR.out.1 h
     first | (simp at this; done) | omega)
    have g1 : decide (k < 1) = true := decide_eq_true k1
    clear k1
    as_aux_lemma =>
     go_wp2_with fail
     go_ret
     exact ⟨by rw [HE.out]; rfl, HBL.out⟩
   have gk1 : decide (k < 1) = false := decide_eq_false k1
   have HQk1 := Lib.hid k1
   clear k1
   by_cases k2 : 15 < k
   ·have HE : Hid (rr = false) := Lib.hid (by
     rw [Bool.eq_false_iff]
     intro h
     have := HR.out.1 h
     first | (simp at this; done) | omega)
    have g1 : decide (15 < k) = true := decide_eq_true k2
    clear k2
    as_aux_lemma =>
     go_wp2_with fail
     go_ret
     exact ⟨by rw [HE.out]; rfl, HBL.out⟩
   have gk2 : decide (15 < k) = false := decide_eq_false k2
   have HQk2 := Lib.hid k2
   clear k2
   go_wp2_with fail
   refine (CH116.out _).mono ?_
   rintro e wx ⟨rfl, rfl⟩
   cases bE
   ·have HE : Hid (rr = false) := Lib.hid (by
     rw [Bool.eq_false_iff]
     intro h
     have := HR.out.1 h
     first | (simp at this; done) | omega)
    as_aux_lemma =>
     go_wp2_with fail
     go_ret
     exact ⟨by rw [HE.out]; rfl, HBL.out⟩
   go_wp2_with fail
   refine (CH108.out _).mono ?_
   rintro e wx ⟨rfl, rfl⟩
   cases lead
   rotate_left
   ·have HE : Hid (rr = false) := Lib.hid (by
     rw [Bool.eq_false_iff]
     intro h
     have := HR.out.1 h
     first | (simp at this; done) | omega)
    as_aux_lemma =>
     go_wp2_with fail
     go_ret
     exact ⟨by rw [HE.out]; rfl, HBL.out⟩
   go_wp2_with fail
   refine (CH110.out _).mono ?_
   rintro e wx ⟨rfl, rfl⟩
   by_cases n0 : num = 0
   rotate_left
   ·have HE : Hid (rr = false) := Lib.hid (by
     rw [Bool.eq_false_iff]
     intro h
     have := HR.out.1 h
     first | (simp at this; done) | omega)
    have g1 : ((num : Int) == 0) = false := by rw [beq_eq_false_iff_ne]; omega
    have g2 : ((num : Int) != 0) = true := by rw [bne_iff_ne]; omega
    clear n0
    as_aux_lemma =>
     go_wp2_with fail
     go_ret
     exact ⟨by rw [HE.out]; rfl, HBL.out⟩
   subst n0
   go_wp2_with fail
   refine (CH115.out _).mono ?_
   rintro e wx ⟨rfl, rfl⟩
   by_cases s0 : seq = 0
   rotate_left
   ·have HE : Hid (rr = false) := Lib.hid (by
     rw [Bool.eq_false_iff]
     intro h
     have := HR.out.1 h
     first | (simp at this; done) | omega)
    have g1 : ((seq : Int) == 0) = false := by rw [beq_eq_false_iff_ne]; omega
    have g2 : ((seq : Int) != 0) = true := by rw [bne_iff_ne]; omega
    clear s0
    as_aux_lemma =>
     go_wp2_with fail
     go_ret
     exact ⟨by rw [HE.out]; rfl, HBL.out⟩
   subst s0
   go_wp2_with fail
   refine (CH109.out _).mono ?_
   rintro e wx ⟨rfl, rfl⟩
   cases bN
   ·have HE : Hid (rr = false) := Lib.hid (by
     rw [Bool.eq_false_iff]
     intro h
     have := HR.out.1 h
     first | (simp at this; done) | omega)
    as_aux_lemma =>
     go_wp2_with fail
     go_ret
     exact ⟨by rw [HE.out]; rfl, HBL.out⟩
   go_wp2_with fail
   refine (CSt.out _).mono ?_
   rintro e w1 ⟨rfl, hb1⟩
   have HB1 := Lib.hid hb1
   clear hb1 c0 c8 c9 c18 c20 c21 a2 a3 a4 a5 a6 a7 hns hnn HBL gk1 gk2
   have HAX := Lib.hid (HAt.out w1 HB1.out)
   have HBL := Lib.hid (bthen HB0.out HB1.out)
   have c17 := HAX.out.c17
   have c19 := HAX.out.c19
   have HRO : Hid (w1.rangeAt w.heap.size 10 OA) := Lib.hid (by have h := HAX.out.r10; rw [HOA.out] at h; exact h)
   have HRI : Hid (w1.rangeAt w.heap.size 22 IL) := Lib.hid (by have h := HAX.out.r22; rw [HIL.out] at h; exact h)
   dsimp only at c17 c19
   clear HAX
   cases bS
   ·have HE : Hid (rr = false) := Lib.hid (by
     rw [Bool.eq_false_iff]
     intro h
     have := HR.out.1 h
     first | (simp at this; done) | omega)
    as_aux_lemma =>
     go_wp2_with fail
     go_ret
     exact ⟨by rw [HE.out]; rfl, HBL.out⟩
   by_cases f1 : fro < 0
   ·have HE : Hid (rr = false) := Lib.hid (by
     rw [Bool.eq_false_iff]
     intro h
     have := HR.out.1 h
     first | (simp at this; done) | omega)
    have g1 : decide (fro < 0) = true := decide_eq_true f1
    clear f1
    as_aux_lemma =>
     go_wp2_with fail
     go_ret
     exact ⟨by rw [HE.out]; rfl, HBL.out⟩
   have gf1 : decide (fro < 0) = false := decide_eq_false f1
   have HQf1 := Lib.hid f1
   clear f1
   by_cases f2 : 2 < fro
   ·have HE : Hid (rr = false) := Lib.hid (by
     rw [Bool.eq_false_iff]
     intro h
     have := HR.out.1 h
     first | (simp at this; done) | omega)
    have g1 : decide (2 < fro) = true := decide_eq_true f2
    clear f2
    as_aux_lemma =>
     go_wp2_with fail
     go_ret
     exact ⟨by rw [HE.out]; rfl, HBL.out⟩
   have gf2 : decide (2 < fro) = false := decide_eq_false f2
   have HQf2 := Lib.hid f2
   clear f2
   go_wp2_with fail
   refine (CH102.out _).mono ?_
   rintro e wx ⟨rfl, rfl⟩
   by_cases f0 : fro = 0
   rotate_left
   ·have HE : Hid (rr = false) := Lib.hid (by
     rw [Bool.eq_false_iff]
     intro h
     have := HR.out.1 h
     first | (simp at this; done) | omega)
    have g1 : (fro == 0) = false := by rw [beq_eq_false_iff_ne]; omega
    have g2 : (fro != 0) = true := by rw [bne_iff_ne]; omega
    clear f0
    as_aux_lemma =>
     go_wp2_with fail
     go_ret
     exact ⟨by rw [HE.out]; rfl, HBL.out⟩
   subst f0
   by_cases b1 : blocks < 0
   ·have HE : Hid (rr = false) := Lib.hid (by
     rw [Bool.eq_false_iff]
     intro h
     have := HR.out.1 h
     first | (simp at this; done) | omega)
    have g1 : decide (blocks < 0) = true := decide_eq_true b1
    clear b1
    as_aux_lemma =>
     go_wp2_with fail
     go_ret
     exact ⟨by rw [HE.out]; rfl, HBL.out⟩
   have gb1 : decide (blocks < 0) = false := decide_eq_false b1
   have HQb1 := Lib.hid b1
   clear b1
   by_cases b2 : 1048576 < blocks
   ·have HE : Hid (rr = false) := Lib.hid (by
     rw [Bool.eq_false_iff]
     intro h
     have := HR.out.1 h
     first | (simp at this; done) | omega)
    have g1 : decide (1048576 < blocks) = true := decide_eq_true b2
    clear b2
    as_aux_lemma =>
     go_wp2_with fail
     go_ret
     exact ⟨by rw [HE.out]; rfl, HBL.out⟩
   have gb2 : decide (1048576 < blocks) = false := decide_eq_false b2
   have HQb2 := Lib.hid b2
   clear b2
   go_wp2_with fail
   refine (CH98.out _).mono ?_
   rintro e wx ⟨rfl, rfl⟩
   by_cases b0 : blocks = 0
   rotate_left
   ·have HE : Hid (rr = false) := Lib.hid (by
     rw [Bool.eq_false_iff]
     intro h
     have := HR.out.1 h
     first | (simp at this; done) | omega)
    have g1 : (blocks == 0) = false := by rw [beq_eq_false_iff_ne]; omega
    have g2 : (blocks != 0) = true := by rw [bne_iff_ne]; omega
    clear b0
    as_aux_lemma =>
     go_wp2_with fail
     go_ret
     exact ⟨by rw [HE.out]; rfl, HBL.out⟩
   subst b0
   go_wp2_with fail
   refine (CH111.out _).mono ?_
   rintro e wx ⟨rfl, rfl⟩
   go_wp2_with fail
   refine (CH111.out _).mono ?_
   rintro e wx ⟨rfl, rfl⟩
   go_wp2_with (refine wpList_load_met (by kernel_rfl) 70 _ rfl w.heap.size 10 rfl OA _ HRO.out Tryz.underlying70 rfl HIO.out ?_)
   refine (CN.out _ HBL.out).mono ?_
   rintro e w2 ⟨rfl, hb2⟩
   have HBL2 := Lib.hid (bthen HBL.out hb2)
   have HRI2 : Hid (w2.rangeAt w.heap.size 22 IL) := Lib.hid (rangeAt_below HRI.out (Nat.lt_of_lt_of_le HWS.out HB1.out.size) hb2)
   clear HBL hb2 HRO HRI
   have HBL := HBL2
   clear HBL2
   cases bP
   ·have HE : Hid (rr = false) := Lib.hid (by
     rw [Bool.eq_false_iff]
     intro h
     have := HR.out.1 h
     first | (simp at this; done) | omega)
    as_aux_lemma =>
     go_wp2_with fail
     go_ret
     exact ⟨by rw [HE.out]; rfl, HBL.out⟩
   go_wp2_with fail
   refine (CH105.out _).mono ?_
   rintro e wx ⟨rfl, rfl⟩
   go_wp2_with (refine wpList_load_met (by kernel_rfl) 78 _ rfl w.heap.size 22 rfl IL _ HRI2.out Tryz.underlying78 rfl HII.out ?_)
   refine (CJ.out _ HBL.out).mono ?_
   rintro e w3 ⟨rfl, hb3⟩
   have HBL2 := Lib.hid (bthen HBL.out hb3)
   clear HBL hb3
   have HE : Hid (rr = bJ) := Lib.hid (by
    have h := HR.out
    have q1 := HQk1.out
    have q2 := HQk2.out
    have q5 := HQb1.out
    have q6 := HQb2.out
    have q3 := HQf1.out
    have q4 := HQf2.out
    clear HR
    rw [Bool.eq_iff_iff, h]
    clear h
    cases bJ <;> (try simp) <;> (try omega))
   as_aux_lemma =>
    go_wp2_with fail
    go_ret
    exact ⟨by rw [HE.out]; rfl, HBL2.out⟩
end Go.Proofs.YtgkelbdgdhkeoaaGreat
