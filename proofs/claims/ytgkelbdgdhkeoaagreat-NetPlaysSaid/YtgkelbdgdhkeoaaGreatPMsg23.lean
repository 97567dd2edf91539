/- The reference's MayItem, walked. -/
import Derived.Test.YtgkelbdgdhkeoaaGreatPMsg6
import Derived.Test.YtgkelbdgdhkeoaaGreatPCmdR3
namespace Go.Proofs.YtgkelbdgdhkeoaaGreat
open Go.RowKit
set_option linter.unusedVariables false
set_option linter.unusedSimpArgs false
open Wire Cmd
set_option maxRecDepth 100000 in
set_option maxHeartbeats 12800000 in
theorem rmayI_any (i : It0) (ok : i.Ok) (sl : Value) (w : World) (hd : Rd w 1 sl i.op.data.length (bV i.op.data)) (hl : i.op.data.length ≤ 1000000) :
  Calls Tryz.prog 79 #[.agg (itL i sl).toArray] w fun e w' => e = .returned (.bool (mayI i)) ∧ Below w.heap.size w w' := by
 have HD := Lib.hid hd
 have HB : Hid (Below w.heap.size w (w.alloc (.cells (itL i sl).toArray 78))) := Lib.hid (balloc (Below.refl _ _) _)
 have HI : Hid (IM w (itL i sl) (w.alloc (.cells (itL i sl).toArray 78))) := Lib.hid ⟨heap_alloc_new w _, HB.out⟩
 have CN : Hid (∀ X, Below w.heap.size w X → Calls Tryz.prog 78 #[.agg (opL i.op sl).toArray] X fun e w' => e = .returned (.bool (opEq i.op op0)) ∧ Below X.heap.size X w') := Lib.hid (fun X hX => noOp_any i.op sl X (HD.out.below hX))
 have hM : mayI i = true ↔ MayI i := mayI_iff
 obtain ⟨k, vol, size, blk, data, op, blocks⟩ := i
 obtain ⟨ao, cap, rfl, _⟩ := hd
 have CM : Hid (∀ X, Calls Tryz.prog 77 #[.agg (opL op (.slice ao op.data.length cap)).toArray] X fun e w' => e = .returned (.bool (mayO op)) ∧ Below X.heap.size X w') := Lib.hid (fun X => by
  have := rmayO_any op ok.op ao cap X hl
  rw [mayR_mayO] at this
  exact this)
 have hv := ok.vol
 have hs := ok.size
 have hbk := ok.blk
 have hbl := ok.blocks
 unfold I64 at hs hbk hbl
 dsimp only at hv hs hbk hbl CN HD
 obtain ⟨hs1, hs2⟩ := hs
 obtain ⟨hbk1, hbk2⟩ := hbk
 obtain ⟨hbl1, hbl2⟩ := hbl
 have HOK := Lib.hid ok
 clear ok hl
 obtain ⟨AL, hAL⟩ : ∃ L, itL ⟨k, vol, size, blk, data, op, blocks⟩ (.slice ao op.data.length cap) = L := ⟨_, rfl⟩
 have HAT := Lib.hid (it_at (range_block HI.out.1) HOK.out.data)
 have HMK : Hid (mayI ⟨k, vol, size, blk, data, op, blocks⟩ = true ↔ (k = 1 ∧ (1 ≤ vol ∧ vol < 4294967296) ∧ size = 0 ∧ blk = 0 ∧ (data == z256) = true ∧ opEq op op0 = true ∧ blocks = 0) ∨ (k = 2 ∧ (1 ≤ vol ∧ vol < 4294967296) ∧ (0 ≤ size ∧ size ≤ 256) ∧ blk = 0 ∧ (data == z256) = true ∧ opEq op op0 = true ∧ blocks = 0) ∨ (k = 3 ∧ (1 ≤ vol ∧ vol < 4294967296) ∧ size = 0 ∧ (0 ≤ blk ∧ blk < 256) ∧ (data == z256) = true ∧ opEq op op0 = true ∧ blocks = 0) ∨ (k = 4 ∧ (1 ≤ vol ∧ vol < 4294967296) ∧ size = 0 ∧ (0 ≤ blk ∧ blk < 256) ∧ opEq op op0 = true ∧ blocks = 0) ∨ (k = 5 ∧ vol = 0 ∧ size = 0 ∧ blk = 0 ∧ (data == z256) = true ∧ mayO op = true ∧ 0 ≤ blocks ∧ blocks ≤ 1048576)) := Lib.hid (by
  rw [hM, opEq_iff, beq_iff_eq]
  exact Iff.rfl)
 clear hM
 dsimp only at HI HB ⊢
 rw [hAL] at HI HB HAT ⊢
 have HAL := Lib.hid hAL.symm
 clear hAL
 obtain ⟨rr, hrr⟩ : ∃ r, mayI ⟨k, vol, size, blk, data, op, blocks⟩ = r := ⟨_, rfl⟩
 rw [hrr] at HMK ⊢
 clear hrr
 have c0 := HAT.out.c0
 have c1 := HAT.out.c1
 have c2 := HAT.out.c2
 have c3 := HAT.out.c3
 have c267 := HAT.out.c267
 have HR4 : Hid ((w.alloc (.cells AL.toArray 78)).rangeAt w.heap.size 4 (bV data)) := Lib.hid (by
  have h := HAT.out.r4
  dsimp only at h
  rwa [Nat.zero_add] at h)
 have HR5 : Hid ((w.alloc (.cells AL.toArray 78)).rangeAt w.heap.size 260 (opL op (.slice ao op.data.length cap))) := Lib.hid (by
  have h := HAT.out.r260
  dsimp only at h
  rwa [Nat.zero_add] at h)
 dsimp only at c0 c1 c2 c3 c267
 rw [Nat.zero_add] at c1 c2 c3 c267
 have HDL : Hid ((Tryz.prog.info? 76).map (·.size) = some (bV data).length) := Lib.hid (by rw [bV_len, HOK.out.data]; exact infoBk)
 have HIO : Hid ((Tryz.prog.info? 70).map (·.size) = some (opL op (.slice ao op.data.length cap)).length) := Lib.hid infoOp
 have HZB := Lib.hid (fun W => zero_blk W data HOK.out.data)
 obtain ⟨OA, hOA⟩ : ∃ O, opL op (.slice ao op.data.length cap) = O := ⟨_, rfl⟩
 rw [hOA] at HR5 HIO CN CM
 clear hOA HAT
 obtain ⟨bd, hbd⟩ : ∃ b, (data == z256) = b := ⟨_, rfl⟩
 rw [hbd] at HMK HZB
 clear hbd
 by_cases k5 : k = 5
 ·subst k5
  by_cases v0 : vol = 0
  rotate_left
  ·have HE : Hid (rr = false) := Lib.hid (by
    rw [Bool.eq_false_iff]
    intro h
    have := HMK.out.1 h
    omega)
   have g1 : ((vol : Int) == 0) = false := bneI (by omega)
   clear v0
   as_aux_lemma =>
    go_enter Tryz.func79, Tryz.ntmps79
    go_wp2_with (first
     | (refine wpList_load_met (by kernel_rfl) 76 _ rfl w.heap.size 4 rfl (bV data) _ HR4.out Tryz.underlying76 rfl HDL.out ?_)
     | (refine wpList_load_met (by kernel_rfl) 70 _ rfl w.heap.size 260 rfl OA _ HR5.out Tryz.underlying70 rfl HIO.out ?_))
    go_ret
    exact ⟨by rw [HE.out]; rfl, HB.out⟩
  subst v0
  by_cases s0 : size = 0
  rotate_left
  ·have HE : Hid (rr = false) := Lib.hid (by
    rw [Bool.eq_false_iff]
    intro h
    have := HMK.out.1 h
    omega)
   have g1 := bneI s0
   clear s0
   as_aux_lemma =>
    go_enter Tryz.func79, Tryz.ntmps79
    go_wp2_with (first
     | (refine wpList_load_met (by kernel_rfl) 76 _ rfl w.heap.size 4 rfl (bV data) _ HR4.out Tryz.underlying76 rfl HDL.out ?_)
     | (refine wpList_load_met (by kernel_rfl) 70 _ rfl w.heap.size 260 rfl OA _ HR5.out Tryz.underlying70 rfl HIO.out ?_))
    go_ret
    exact ⟨by rw [HE.out]; rfl, HB.out⟩
  subst s0
  by_cases b0 : blk = 0
  rotate_left
  ·have HE : Hid (rr = false) := Lib.hid (by
    rw [Bool.eq_false_iff]
    intro h
    have := HMK.out.1 h
    omega)
   have g1 := bneI b0
   clear b0
   as_aux_lemma =>
    go_enter Tryz.func79, Tryz.ntmps79
    go_wp2_with (first
     | (refine wpList_load_met (by kernel_rfl) 76 _ rfl w.heap.size 4 rfl (bV data) _ HR4.out Tryz.underlying76 rfl HDL.out ?_)
     | (refine wpList_load_met (by kernel_rfl) 70 _ rfl w.heap.size 260 rfl OA _ HR5.out Tryz.underlying70 rfl HIO.out ?_))
    go_ret
    exact ⟨by rw [HE.out]; rfl, HB.out⟩
  subst b0
  cases bd with
  | false =>
   have HE : Hid (rr = false) := Lib.hid (by
    rw [Bool.eq_false_iff]
    intro h
    have := HMK.out.1 h
    simp at this)
   have hzb := HZB.out
   as_aux_lemma =>
    go_enter Tryz.func79, Tryz.ntmps79
    go_wp2_with (first
     | (refine wpList_load_met (by kernel_rfl) 76 _ rfl w.heap.size 4 rfl (bV data) _ HR4.out Tryz.underlying76 rfl HDL.out ?_)
     | (refine wpList_load_met (by kernel_rfl) 70 _ rfl w.heap.size 260 rfl OA _ HR5.out Tryz.underlying70 rfl HIO.out ?_))
    go_ret
    exact ⟨by rw [HE.out]; rfl, HB.out⟩
  | true =>
   have hzb := HZB.out
   as_aux_lemma =>
    go_enter Tryz.func79, Tryz.ntmps79
    go_wp2_with (first
     | (refine wpList_load_met (by kernel_rfl) 76 _ rfl w.heap.size 4 rfl (bV data) _ HR4.out Tryz.underlying76 rfl HDL.out ?_)
     | (refine wpList_load_met (by kernel_rfl) 70 _ rfl w.heap.size 260 rfl OA _ HR5.out Tryz.underlying70 rfl HIO.out ?_))
    refine (CM.out _).mono ?_
    rintro e w1 ⟨rfl, hb1⟩
    have HI1 := Lib.hid (HI.out.mono hb1)
    have HB1 := Lib.hid HI1.out.2
    have c267' : w1.cell? ⟨w.heap.size, 267, none⟩ = some (.int .i64 blocks) := by
     have h := (it_at (HAL.out ▸ range_block HI1.out.1) HOK.out.data).c267
     dsimp only at h
     rwa [Nat.zero_add] at h
    clear hb1 c0 c1 c2 c3 c267
    obtain ⟨q, hq⟩ : ∃ q, mayO op = q := ⟨_, rfl⟩
    rw [hq] at HMK ⊢
    clear hq
    cases q
    all_goals
     go_wp2_with fail
     all_goals
      go_ret
      refine ⟨ret_bool ?_, HB1.out⟩
      have hmk := HMK.out
      rw [Bool.eq_iff_iff, hmk]
      clear hmk
      first
      | (simp; done)
      | (simp; omega)
      | (simp_all; done)
      | (simp_all; omega)
 by_cases k1 : k = 1
 ·subst k1
  clear k5
  as_aux_lemma =>
   by_cases v1 : vol < 1
   ·have HE : Hid (rr = false) := Lib.hid (by
     rw [Bool.eq_false_iff]
     intro h
     have := HMK.out.1 h
     omega)
    have g1 : decide ((vol : Int) < 1) = true := decide_eq_true (by omega)
    clear v1
    as_aux_lemma =>
     go_enter Tryz.func79, Tryz.ntmps79
     go_wp2_with (first
      | (refine wpList_load_met (by kernel_rfl) 76 _ rfl w.heap.size 4 rfl (bV data) _ HR4.out Tryz.underlying76 rfl HDL.out ?_)
      | (refine wpList_load_met (by kernel_rfl) 70 _ rfl w.heap.size 260 rfl OA _ HR5.out Tryz.underlying70 rfl HIO.out ?_))
     go_ret
     exact ⟨by rw [HE.out]; rfl, HB.out⟩
   by_cases v2 : 4294967295 < vol
   ·have HE : Hid (rr = false) := Lib.hid (by
     rw [Bool.eq_false_iff]
     intro h
     have := HMK.out.1 h
     omega)
    have g1 : decide ((vol : Int) < 1) = false := decide_eq_false (by omega)
    have g2 : decide (4294967295 < (vol : Int)) = true := decide_eq_true (by omega)
    clear v1 v2
    as_aux_lemma =>
     go_enter Tryz.func79, Tryz.ntmps79
     go_wp2_with (first
      | (refine wpList_load_met (by kernel_rfl) 76 _ rfl w.heap.size 4 rfl (bV data) _ HR4.out Tryz.underlying76 rfl HDL.out ?_)
      | (refine wpList_load_met (by kernel_rfl) 70 _ rfl w.heap.size 260 rfl OA _ HR5.out Tryz.underlying70 rfl HIO.out ?_))
     go_ret
     exact ⟨by rw [HE.out]; rfl, HB.out⟩
   have g1 : decide ((vol : Int) < 1) = false := decide_eq_false (by omega)
   have g2 : decide (4294967295 < (vol : Int)) = false := decide_eq_false (by omega)
   have HV := Lib.hid (And.intro v1 v2)
   clear v1 v2
   go_enter Tryz.func79, Tryz.ntmps79
   go_wp2_with (first
    | (refine wpList_load_met (by kernel_rfl) 76 _ rfl w.heap.size 4 rfl (bV data) _ HR4.out Tryz.underlying76 rfl HDL.out ?_)
    | (refine wpList_load_met (by kernel_rfl) 70 _ rfl w.heap.size 260 rfl OA _ HR5.out Tryz.underlying70 rfl HIO.out ?_))
   refine (CN.out _ HB.out).mono ?_
   rintro e w1 ⟨rfl, hb1⟩
   have HI1 := Lib.hid (HI.out.mono hb1)
   have HB1 := Lib.hid HI1.out.2
   have HAT1 := Lib.hid (it_at (W := w1) (HAL.out ▸ range_block HI1.out.1) HOK.out.data)
   clear c0 c1 c2 c3 c267 hb1 g1 g2
   have c0 := HAT1.out.c0
   have c2 := HAT1.out.c2
   have c3 := HAT1.out.c3
   have c267 := HAT1.out.c267
   have HR41 : Hid (w1.rangeAt w.heap.size 4 (bV data)) := Lib.hid (by
    have h := HAT1.out.r4
    dsimp only at h
    rwa [Nat.zero_add] at h)
   dsimp only at c0 c2 c3 c267
   rw [Nat.zero_add] at c2 c3 c267
   clear HAT1
   obtain ⟨q, hq⟩ : ∃ q, opEq op op0 = q := ⟨_, rfl⟩
   rw [hq] at HMK ⊢
   clear hq
   cases q with
   | false =>
    have HE : Hid (rr = false) := Lib.hid (by
     rw [Bool.eq_false_iff]
     intro h
     have := HMK.out.1 h
     simp at this)
    go_wp2_with fail
    go_ret
    exact ⟨by rw [HE.out]; rfl, HB1.out⟩
   | true =>
    by_cases n0 : blocks = 0
    rotate_left
    ·have HE : Hid (rr = false) := Lib.hid (by
      rw [Bool.eq_false_iff]
      intro h
      have := HMK.out.1 h
      omega)
     have g3 := bneI n0
     clear n0
     as_aux_lemma =>
      go_wp2_with fail
      go_ret
      exact ⟨by rw [HE.out]; rfl, HB1.out⟩
    subst n0
    by_cases s0 : size = 0
    rotate_left
    ·have HE : Hid (rr = false) := Lib.hid (by
      rw [Bool.eq_false_iff]
      intro h
      have := HMK.out.1 h
      omega)
     have g4 := bneI s0
     have g4' : (size != 0) = true := bne_iff_ne.2 s0
     clear s0
     as_aux_lemma =>
      go_wp2_with fail
      go_ret
      exact ⟨by rw [HE.out]; rfl, HB1.out⟩
    subst s0
    by_cases b0 : blk = 0
    rotate_left
    ·have HE : Hid (rr = false) := Lib.hid (by
      rw [Bool.eq_false_iff]
      intro h
      have := HMK.out.1 h
      omega)
     have g5 := bneI b0
     have g5' : (blk != 0) = true := bne_iff_ne.2 b0
     clear b0
     as_aux_lemma =>
      go_wp2_with fail
      go_ret
      exact ⟨by rw [HE.out]; rfl, HB1.out⟩
    subst b0
    have HE : Hid (rr = bd) := Lib.hid (by
     have h := HMK.out
     have hv1 := HV.out
     clear HMK
     rw [Bool.eq_iff_iff, h]
     clear h
     cases bd <;> (try simp) <;> (try omega))
    have hzb := HZB.out
    as_aux_lemma =>
     go_wp2_with (first
      | (refine wpList_load_met (by kernel_rfl) 76 _ rfl w.heap.size 4 rfl (bV data) _ HR41.out Tryz.underlying76 rfl HDL.out ?_))
     go_ret
     refine ⟨ret_bool HE.out.symm, HB1.out⟩
 by_cases k2 : k = 2
 ·subst k2
  clear k5 k1
  as_aux_lemma =>
   by_cases v1 : vol < 1
   ·have HE : Hid (rr = false) := Lib.hid (by
     rw [Bool.eq_false_iff]
     intro h
     have := HMK.out.1 h
     omega)
    have g1 : decide ((vol : Int) < 1) = true := decide_eq_true (by omega)
    clear v1
    as_aux_lemma =>
     go_enter Tryz.func79, Tryz.ntmps79
     go_wp2_with (first
      | (refine wpList_load_met (by kernel_rfl) 76 _ rfl w.heap.size 4 rfl (bV data) _ HR4.out Tryz.underlying76 rfl HDL.out ?_)
      | (refine wpList_load_met (by kernel_rfl) 70 _ rfl w.heap.size 260 rfl OA _ HR5.out Tryz.underlying70 rfl HIO.out ?_))
     go_ret
     exact ⟨by rw [HE.out]; rfl, HB.out⟩
   by_cases v2 : 4294967295 < vol
   ·have HE : Hid (rr = false) := Lib.hid (by
     rw [Bool.eq_false_iff]
     intro h
     have := HMK.out.1 h
     omega)
    have g1 : decide ((vol : Int) < 1) = false := decide_eq_false (by omega)
    have g2 : decide (4294967295 < (vol : Int)) = true := decide_eq_true (by omega)
    clear v1 v2
    as_aux_lemma =>
     go_enter Tryz.func79, Tryz.ntmps79
     go_wp2_with (first
      | (refine wpList_load_met (by kernel_rfl) 76 _ rfl w.heap.size 4 rfl (bV data) _ HR4.out Tryz.underlying76 rfl HDL.out ?_)
      | (refine wpList_load_met (by kernel_rfl) 70 _ rfl w.heap.size 260 rfl OA _ HR5.out Tryz.underlying70 rfl HIO.out ?_))
     go_ret
     exact ⟨by rw [HE.out]; rfl, HB.out⟩
   have g1 : decide ((vol : Int) < 1) = false := decide_eq_false (by omega)
   have g2 : decide (4294967295 < (vol : Int)) = false := decide_eq_false (by omega)
   have HV := Lib.hid (And.intro v1 v2)
   clear v1 v2
   go_enter Tryz.func79, Tryz.ntmps79
   go_wp2_with (first
    | (refine wpList_load_met (by kernel_rfl) 76 _ rfl w.heap.size 4 rfl (bV data) _ HR4.out Tryz.underlying76 rfl HDL.out ?_)
    | (refine wpList_load_met (by kernel_rfl) 70 _ rfl w.heap.size 260 rfl OA _ HR5.out Tryz.underlying70 rfl HIO.out ?_))
   refine (CN.out _ HB.out).mono ?_
   rintro e w1 ⟨rfl, hb1⟩
   have HI1 := Lib.hid (HI.out.mono hb1)
   have HB1 := Lib.hid HI1.out.2
   have HAT1 := Lib.hid (it_at (W := w1) (HAL.out ▸ range_block HI1.out.1) HOK.out.data)
   clear c0 c1 c2 c3 c267 hb1 g1 g2
   have c0 := HAT1.out.c0
   have c2 := HAT1.out.c2
   have c3 := HAT1.out.c3
   have c267 := HAT1.out.c267
   have HR41 : Hid (w1.rangeAt w.heap.size 4 (bV data)) := Lib.hid (by
    have h := HAT1.out.r4
    dsimp only at h
    rwa [Nat.zero_add] at h)
   dsimp only at c0 c2 c3 c267
   rw [Nat.zero_add] at c2 c3 c267
   clear HAT1
   obtain ⟨q, hq⟩ : ∃ q, opEq op op0 = q := ⟨_, rfl⟩
   rw [hq] at HMK ⊢
   clear hq
   cases q with
   | false =>
    have HE : Hid (rr = false) := Lib.hid (by
     rw [Bool.eq_false_iff]
     intro h
     have := HMK.out.1 h
     simp at this)
    go_wp2_with fail
    go_ret
    exact ⟨by rw [HE.out]; rfl, HB1.out⟩
   | true =>
    by_cases n0 : blocks = 0
    rotate_left
    ·have HE : Hid (rr = false) := Lib.hid (by
      rw [Bool.eq_false_iff]
      intro h
      have := HMK.out.1 h
      omega)
     have g3 := bneI n0
     clear n0
     as_aux_lemma =>
      go_wp2_with fail
      go_ret
      exact ⟨by rw [HE.out]; rfl, HB1.out⟩
    subst n0
    by_cases a1 : size < 0
    ·have HE : Hid (rr = false) := Lib.hid (by
      rw [Bool.eq_false_iff]
      intro h
      have := HMK.out.1 h
      omega)
     have g6 : decide (size < 0) = true := decide_eq_true a1
     clear a1
     as_aux_lemma =>
      go_wp2_with fail
      go_ret
      exact ⟨by rw [HE.out]; rfl, HB1.out⟩
    by_cases a2 : 256 < size
    ·have HE : Hid (rr = false) := Lib.hid (by
      rw [Bool.eq_false_iff]
      intro h
      have := HMK.out.1 h
      omega)
     have g6 : decide (size < 0) = false := decide_eq_false a1
     have g7 : decide (256 < size) = true := decide_eq_true a2
     clear a1 a2
     as_aux_lemma =>
      go_wp2_with fail
      go_ret
      exact ⟨by rw [HE.out]; rfl, HB1.out⟩
    have g6 : decide (size < 0) = false := decide_eq_false a1
    have g7 : decide (256 < size) = false := decide_eq_false a2
    have HSR := Lib.hid (And.intro a1 a2)
    clear a1 a2
    by_cases b0 : blk = 0
    rotate_left
    ·have HE : Hid (rr = false) := Lib.hid (by
      rw [Bool.eq_false_iff]
      intro h
      have := HMK.out.1 h
      omega)
     have g5 := bneI b0
     have g5' : (blk != 0) = true := bne_iff_ne.2 b0
     clear b0
     as_aux_lemma =>
      go_wp2_with fail
      go_ret
      exact ⟨by rw [HE.out]; rfl, HB1.out⟩
    subst b0
    have HE : Hid (rr = bd) := Lib.hid (by
     have h := HMK.out
     have hv1 := HV.out
     have hs1 := HSR.out
     clear HMK
     rw [Bool.eq_iff_iff, h]
     clear h
     cases bd <;> (try simp) <;> (try omega))
    have hzb := HZB.out
    as_aux_lemma =>
     go_wp2_with (first
      | (refine wpList_load_met (by kernel_rfl) 76 _ rfl w.heap.size 4 rfl (bV data) _ HR41.out Tryz.underlying76 rfl HDL.out ?_))
     go_ret
     refine ⟨ret_bool HE.out.symm, HB1.out⟩
 by_cases k3 : k = 3
 ·subst k3
  clear k5 k1 k2
  as_aux_lemma =>
   by_cases v1 : vol < 1
   ·have HE : Hid (rr = false) := Lib.hid (by
     rw [Bool.eq_false_iff]
     intro h
     have := HMK.out.1 h
     omega)
    have g1 : decide ((vol : Int) < 1) = true := decide_eq_true (by omega)
    clear v1
    as_aux_lemma =>
     go_enter Tryz.func79, Tryz.ntmps79
     go_wp2_with (first
      | (refine wpList_load_met (by kernel_rfl) 76 _ rfl w.heap.size 4 rfl (bV data) _ HR4.out Tryz.underlying76 rfl HDL.out ?_)
      | (refine wpList_load_met (by kernel_rfl) 70 _ rfl w.heap.size 260 rfl OA _ HR5.out Tryz.underlying70 rfl HIO.out ?_))
     go_ret
     exact ⟨by rw [HE.out]; rfl, HB.out⟩
   by_cases v2 : 4294967295 < vol
   ·have HE : Hid (rr = false) := Lib.hid (by
     rw [Bool.eq_false_iff]
     intro h
     have := HMK.out.1 h
     omega)
    have g1 : decide ((vol : Int) < 1) = false := decide_eq_false (by omega)
    have g2 : decide (4294967295 < (vol : Int)) = true := decide_eq_true (by omega)
    clear v1 v2
    as_aux_lemma =>
     go_enter Tryz.func79, Tryz.ntmps79
     go_wp2_with (first
      | (refine wpList_load_met (by kernel_rfl) 76 _ rfl w.heap.size 4 rfl (bV data) _ HR4.out Tryz.underlying76 rfl HDL.out ?_)
      | (refine wpList_load_met (by kernel_rfl) 70 _ rfl w.heap.size 260 rfl OA _ HR5.out Tryz.underlying70 rfl HIO.out ?_))
     go_ret
     exact ⟨by rw [HE.out]; rfl, HB.out⟩
   have g1 : decide ((vol : Int) < 1) = false := decide_eq_false (by omega)
   have g2 : decide (4294967295 < (vol : Int)) = false := decide_eq_false (by omega)
   have HV := Lib.hid (And.intro v1 v2)
   clear v1 v2
   go_enter Tryz.func79, Tryz.ntmps79
   go_wp2_with (first
    | (refine wpList_load_met (by kernel_rfl) 76 _ rfl w.heap.size 4 rfl (bV data) _ HR4.out Tryz.underlying76 rfl HDL.out ?_)
    | (refine wpList_load_met (by kernel_rfl) 70 _ rfl w.heap.size 260 rfl OA _ HR5.out Tryz.underlying70 rfl HIO.out ?_))
   refine (CN.out _ HB.out).mono ?_
   rintro e w1 ⟨rfl, hb1⟩
   have HI1 := Lib.hid (HI.out.mono hb1)
   have HB1 := Lib.hid HI1.out.2
   have HAT1 := Lib.hid (it_at (W := w1) (HAL.out ▸ range_block HI1.out.1) HOK.out.data)
   clear c0 c1 c2 c3 c267 hb1 g1 g2
   have c0 := HAT1.out.c0
   have c2 := HAT1.out.c2
   have c3 := HAT1.out.c3
   have c267 := HAT1.out.c267
   have HR41 : Hid (w1.rangeAt w.heap.size 4 (bV data)) := Lib.hid (by
    have h := HAT1.out.r4
    dsimp only at h
    rwa [Nat.zero_add] at h)
   dsimp only at c0 c2 c3 c267
   rw [Nat.zero_add] at c2 c3 c267
   clear HAT1
   obtain ⟨q, hq⟩ : ∃ q, opEq op op0 = q := ⟨_, rfl⟩
   rw [hq] at HMK ⊢
   clear hq
   cases q with
   | false =>
    have HE : Hid (rr = false) := Lib.hid (by
     rw [Bool.eq_false_iff]
     intro h
     have := HMK.out.1 h
     simp at this)
    go_wp2_with fail
    go_ret
    exact ⟨by rw [HE.out]; rfl, HB1.out⟩
   | true =>
    by_cases n0 : blocks = 0
    rotate_left
    ·have HE : Hid (rr = false) := Lib.hid (by
      rw [Bool.eq_false_iff]
      intro h
      have := HMK.out.1 h
      omega)
     have g3 := bneI n0
     clear n0
     as_aux_lemma =>
      go_wp2_with fail
      go_ret
      exact ⟨by rw [HE.out]; rfl, HB1.out⟩
    subst n0
    by_cases s0 : size = 0
    rotate_left
    ·have HE : Hid (rr = false) := Lib.hid (by
      rw [Bool.eq_false_iff]
      intro h
      have := HMK.out.1 h
      omega)
     have g4 := bneI s0
     have g4' : (size != 0) = true := bne_iff_ne.2 s0
     clear s0
     as_aux_lemma =>
      go_wp2_with fail
      go_ret
      exact ⟨by rw [HE.out]; rfl, HB1.out⟩
    subst s0
    by_cases a1 : blk < 0
    ·have HE : Hid (rr = false) := Lib.hid (by
      rw [Bool.eq_false_iff]
      intro h
      have := HMK.out.1 h
      omega)
     have g8 : decide (blk < 0) = true := decide_eq_true a1
     clear a1
     as_aux_lemma =>
      go_wp2_with fail
      go_ret
      exact ⟨by rw [HE.out]; rfl, HB1.out⟩
    by_cases a2 : 255 < blk
    ·have HE : Hid (rr = false) := Lib.hid (by
      rw [Bool.eq_false_iff]
      intro h
      have := HMK.out.1 h
      omega)
     have g8 : decide (blk < 0) = false := decide_eq_false a1
     have g9 : decide (255 < blk) = true := decide_eq_true a2
     clear a1 a2
     as_aux_lemma =>
      go_wp2_with fail
      go_ret
      exact ⟨by rw [HE.out]; rfl, HB1.out⟩
    have g8 : decide (blk < 0) = false := decide_eq_false a1
    have g9 : decide (255 < blk) = false := decide_eq_false a2
    have HBR := Lib.hid (And.intro a1 a2)
    clear a1 a2
    have HE : Hid (rr = bd) := Lib.hid (by
     have h := HMK.out
     have hv1 := HV.out
     have hb1 := HBR.out
     clear HMK
     rw [Bool.eq_iff_iff, h]
     clear h
     cases bd <;> (try simp) <;> (try omega))
    have hzb := HZB.out
    as_aux_lemma =>
     go_wp2_with (first
      | (refine wpList_load_met (by kernel_rfl) 76 _ rfl w.heap.size 4 rfl (bV data) _ HR41.out Tryz.underlying76 rfl HDL.out ?_))
     go_ret
     refine ⟨ret_bool HE.out.symm, HB1.out⟩
 by_cases k4 : k = 4
 ·subst k4
  clear k5 k1 k2 k3
  as_aux_lemma =>
   by_cases v1 : vol < 1
   ·have HE : Hid (rr = false) := Lib.hid (by
     rw [Bool.eq_false_iff]
     intro h
     have := HMK.out.1 h
     omega)
    have g1 : decide ((vol : Int) < 1) = true := decide_eq_true (by omega)
    clear v1
    as_aux_lemma =>
     go_enter Tryz.func79, Tryz.ntmps79
     go_wp2_with (first
      | (refine wpList_load_met (by kernel_rfl) 76 _ rfl w.heap.size 4 rfl (bV data) _ HR4.out Tryz.underlying76 rfl HDL.out ?_)
      | (refine wpList_load_met (by kernel_rfl) 70 _ rfl w.heap.size 260 rfl OA _ HR5.out Tryz.underlying70 rfl HIO.out ?_))
     go_ret
     exact ⟨by rw [HE.out]; rfl, HB.out⟩
   by_cases v2 : 4294967295 < vol
   ·have HE : Hid (rr = false) := Lib.hid (by
     rw [Bool.eq_false_iff]
     intro h
     have := HMK.out.1 h
     omega)
    have g1 : decide ((vol : Int) < 1) = false := decide_eq_false (by omega)
    have g2 : decide (4294967295 < (vol : Int)) = true := decide_eq_true (by omega)
    clear v1 v2
    as_aux_lemma =>
     go_enter Tryz.func79, Tryz.ntmps79
     go_wp2_with (first
      | (refine wpList_load_met (by kernel_rfl) 76 _ rfl w.heap.size 4 rfl (bV data) _ HR4.out Tryz.underlying76 rfl HDL.out ?_)
      | (refine wpList_load_met (by kernel_rfl) 70 _ rfl w.heap.size 260 rfl OA _ HR5.out Tryz.underlying70 rfl HIO.out ?_))
     go_ret
     exact ⟨by rw [HE.out]; rfl, HB.out⟩
   have g1 : decide ((vol : Int) < 1) = false := decide_eq_false (by omega)
   have g2 : decide (4294967295 < (vol : Int)) = false := decide_eq_false (by omega)
   have HV := Lib.hid (And.intro v1 v2)
   clear v1 v2
   go_enter Tryz.func79, Tryz.ntmps79
   go_wp2_with (first
    | (refine wpList_load_met (by kernel_rfl) 76 _ rfl w.heap.size 4 rfl (bV data) _ HR4.out Tryz.underlying76 rfl HDL.out ?_)
    | (refine wpList_load_met (by kernel_rfl) 70 _ rfl w.heap.size 260 rfl OA _ HR5.out Tryz.underlying70 rfl HIO.out ?_))
   refine (CN.out _ HB.out).mono ?_
   rintro e w1 ⟨rfl, hb1⟩
   have HI1 := Lib.hid (HI.out.mono hb1)
   have HB1 := Lib.hid HI1.out.2
   have HAT1 := Lib.hid (it_at (W := w1) (HAL.out ▸ range_block HI1.out.1) HOK.out.data)
   clear c0 c1 c2 c3 c267 hb1 g1 g2
   have c0 := HAT1.out.c0
   have c2 := HAT1.out.c2
   have c3 := HAT1.out.c3
   have c267 := HAT1.out.c267
   have HR41 : Hid (w1.rangeAt w.heap.size 4 (bV data)) := Lib.hid (by
    have h := HAT1.out.r4
    dsimp only at h
    rwa [Nat.zero_add] at h)
   dsimp only at c0 c2 c3 c267
   rw [Nat.zero_add] at c2 c3 c267
   clear HAT1
   obtain ⟨q, hq⟩ : ∃ q, opEq op op0 = q := ⟨_, rfl⟩
   rw [hq] at HMK ⊢
   clear hq
   cases q with
   | false =>
    have HE : Hid (rr = false) := Lib.hid (by
     rw [Bool.eq_false_iff]
     intro h
     have := HMK.out.1 h
     simp at this)
    go_wp2_with fail
    go_ret
    exact ⟨by rw [HE.out]; rfl, HB1.out⟩
   | true =>
    by_cases n0 : blocks = 0
    rotate_left
    ·have HE : Hid (rr = false) := Lib.hid (by
      rw [Bool.eq_false_iff]
      intro h
      have := HMK.out.1 h
      omega)
     have g3 := bneI n0
     clear n0
     as_aux_lemma =>
      go_wp2_with fail
      go_ret
      exact ⟨by rw [HE.out]; rfl, HB1.out⟩
    subst n0
    by_cases s0 : size = 0
    rotate_left
    ·have HE : Hid (rr = false) := Lib.hid (by
      rw [Bool.eq_false_iff]
      intro h
      have := HMK.out.1 h
      omega)
     have g4 := bneI s0
     have g4' : (size != 0) = true := bne_iff_ne.2 s0
     clear s0
     as_aux_lemma =>
      go_wp2_with fail
      go_ret
      exact ⟨by rw [HE.out]; rfl, HB1.out⟩
    subst s0
    by_cases a1 : blk < 0
    ·have HE : Hid (rr = false) := Lib.hid (by
      rw [Bool.eq_false_iff]
      intro h
      have := HMK.out.1 h
      omega)
     have g8 : decide (blk < 0) = true := decide_eq_true a1
     clear a1
     as_aux_lemma =>
      go_wp2_with fail
      go_ret
      exact ⟨by rw [HE.out]; rfl, HB1.out⟩
    by_cases a2 : 255 < blk
    ·have HE : Hid (rr = false) := Lib.hid (by
      rw [Bool.eq_false_iff]
      intro h
      have := HMK.out.1 h
      omega)
     have g8 : decide (blk < 0) = false := decide_eq_false a1
     have g9 : decide (255 < blk) = true := decide_eq_true a2
     clear a1 a2
     as_aux_lemma =>
      go_wp2_with fail
      go_ret
      exact ⟨by rw [HE.out]; rfl, HB1.out⟩
    have g8 : decide (blk < 0) = false := decide_eq_false a1
    have g9 : decide (255 < blk) = false := decide_eq_false a2
    have HBR := Lib.hid (And.intro a1 a2)
    clear a1 a2
    have HE : Hid (rr = true) := Lib.hid (by
     have h := HMK.out
     have hv1 := HV.out
     have hb1 := HBR.out
     clear HMK
     rw [Bool.eq_iff_iff, h]
     clear h
     cases bd <;> (try simp) <;> (try omega))
    have hzb := HZB.out
    as_aux_lemma =>
     go_wp2_with (first
      | (refine wpList_load_met (by kernel_rfl) 76 _ rfl w.heap.size 4 rfl (bV data) _ HR41.out Tryz.underlying76 rfl HDL.out ?_))
     go_ret
     refine ⟨ret_bool HE.out.symm, HB1.out⟩
 have HE : Hid (rr = false) := Lib.hid (by
  rw [Bool.eq_false_iff]
  intro h
  have := HMK.out.1 h
  omega)
 have g5 := bneI k5
 by_cases k0 : k < 1
 ·have g6 : decide (k < 1) = true := decide_eq_true k0
  clear k0
  clear k5 k1 k2 k3 k4
  as_aux_lemma =>
   go_enter Tryz.func79, Tryz.ntmps79
   go_wp2_with (first
    | (refine wpList_load_met (by kernel_rfl) 76 _ rfl w.heap.size 4 rfl (bV data) _ HR4.out Tryz.underlying76 rfl HDL.out ?_)
    | (refine wpList_load_met (by kernel_rfl) 70 _ rfl w.heap.size 260 rfl OA _ HR5.out Tryz.underlying70 rfl HIO.out ?_))
   go_ret
   exact ⟨by rw [HE.out]; rfl, HB.out⟩
 have g6 : decide (k < 1) = false := decide_eq_false k0
 have g7 : decide (4 < k) = true := decide_eq_true (by omega)
 clear k5 k1 k2 k3 k4 k0
 as_aux_lemma =>
  go_enter Tryz.func79, Tryz.ntmps79
  go_wp2_with (first
   | (refine wpList_load_met (by kernel_rfl) 76 _ rfl w.heap.size 4 rfl (bV data) _ HR4.out Tryz.underlying76 rfl HDL.out ?_)
   | (refine wpList_load_met (by kernel_rfl) 70 _ rfl w.heap.size 260 rfl OA _ HR5.out Tryz.underlying70 rfl HIO.out ?_))
  go_ret
  exact ⟨by rw [HE.out]; rfl, HB.out⟩
end Go.Proofs.YtgkelbdgdhkeoaaGreat
