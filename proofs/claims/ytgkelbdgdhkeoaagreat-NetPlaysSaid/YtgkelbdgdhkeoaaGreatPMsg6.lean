/- item.May, walked. -/
import Derived.Deep.DeepCutAuto
import Derived.Test.YtgkelbdgdhkeoaaGreatPMsg3
import Derived.Test.YtgkelbdgdhkeoaaGreatPMsg5
namespace Go.Proofs.YtgkelbdgdhkeoaaGreat
open Go.RowKit
set_option linter.unusedVariables false
set_option linter.unusedSimpArgs false
open Wire Cmd
theorem val_bool {a b : Bool} (h : a = b) : Value.bool a = .bool b := by rw [h]
/-- What the walk of item.May knows of memory. -/
def IM (w : World) (L : List Value) (X : World) : Prop := X.heap[w.heap.size]? = some (.cells L.toArray 78 (0, 0)) ∧ Below w.heap.size w X
theorem range_block {X : World} {b : Nat} {cs : List Value} {T : TypeId} (h : X.heap[b]? = some (.cells cs.toArray T (0, 0))) : X.rangeAt b 0 cs := fun j u hj => by
 rw [Nat.zero_add]
 exact cellIs h (by simpa using hj)
theorem IM.mono {w : World} {L : List Value} {X Y : World} (h : IM w L X) (hb : Below X.heap.size X Y) : IM w L Y :=
 ⟨(hb.block _ (Array.getElem?_eq_some_iff.1 h.1).1).trans h.1, bthen h.2 hb⟩
theorem zcB : Tryz.zeroCells76 = (bV z256).toArray := by kernel_rfl
theorem zero_blk (w : World) (xs : List UInt8) (hx : xs.length = 256) : (Op.equalIn 10000 76 (.agg (bV xs).toArray) (.agg Tryz.zeroCells76)).run Tryz.prog w = .ok (xs == z256) w := by
 obtain ⟨i, hi⟩ := Option.isSome_iff_exists.1 (show (Tryz.prog.info? 5).isSome = true by kernel_rfl)
 rw [zcB]
 exact run_equalIn_bytes w Tryz.underlying76 Tryz.underlying5 hi (by kernel_rfl) 9998 xs z256 hx (by exact List.length_replicate)
set_option maxRecDepth 100000 in
set_option maxHeartbeats 12800000 in
theorem mayI_any (i : It0) (ok : i.Ok) (sl : Value) (w : World) (hd : Rd w 1 sl i.op.data.length (bV i.op.data)) :
  Calls Tryz.prog 91 #[.agg (itL i sl).toArray] w fun e w' => e = .returned (.bool (mayI i)) ∧ Below w.heap.size w w' := by
 have HD := Lib.hid hd
 have hM : mayI i = true ↔ MayI i := mayI_iff
 have HM := Lib.hid hM
 have HB : Hid (Below w.heap.size w (w.alloc (.cells (itL i sl).toArray 78))) := Lib.hid (balloc (Below.refl _ _) _)
 have HI : Hid (IM w (itL i sl) (w.alloc (.cells (itL i sl).toArray 78))) := Lib.hid ⟨heap_alloc_new w _, HB.out⟩
 have CM : Hid (∀ X, Below w.heap.size w X → Calls Tryz.prog 89 #[.agg (oC i.op sl)] X fun e w' => e = .returned (.bool (mayO i.op)) ∧ Below X.heap.size X w') := Lib.hid (fun X hX => mayO_any i.op ok.op sl X (HD.out.below hX))
 obtain ⟨k, vol, size, blk, data, op, blocks⟩ := i
 have HLN : Hid (op.data.length ≤ 9223372036854775807) := Lib.hid (by obtain ⟨_, _, _, _, h, _⟩ := hd; unfold maxLen at h; exact h)
 obtain ⟨ao, cap, rfl, _⟩ := hd
 have hv := ok.vol
 have hs := ok.size
 have hbk := ok.blk
 have hbl := ok.blocks
 unfold I64 at hs hbk hbl
 dsimp only at hv hs hbk hbl CM
 obtain ⟨hs1, hs2⟩ := hs
 obtain ⟨hbk1, hbk2⟩ := hbk
 obtain ⟨hbl1, hbl2⟩ := hbl
 have HOK := Lib.hid ok
 clear ok hM
 obtain ⟨AL, hAL⟩ : ∃ L, itL ⟨k, vol, size, blk, data, op, blocks⟩ (.slice ao op.data.length cap) = L := ⟨_, rfl⟩
 dsimp only at HI HB ⊢
 obtain ⟨rr, hrr⟩ : ∃ r, mayI ⟨k, vol, size, blk, data, op, blocks⟩ = r := ⟨_, rfl⟩
 rw [hrr] at HM ⊢
 clear hrr
 rw [hAL] at HI HB ⊢
 have HAL := Lib.hid hAL.symm
 clear hAL
 obtain ⟨W0, hW0⟩ : ∃ W, w.alloc (.cells AL.toArray 78) = W := ⟨_, rfl⟩
 rw [hW0] at HI HB
 go_enter Tryz.func91, Tryz.ntmps91
 go_upto_region 1 with fail
 clear hW0
 have HAT := Lib.hid (it_at (HAL.out ▸ range_block HI.out.1) HOK.out.data)
 have c0 := HAT.out.c0
 have c1 := HAT.out.c1
 have c2 := HAT.out.c2
 have c3 := HAT.out.c3
 have c267 := HAT.out.c267
 obtain ⟨u0, u1, u2, u3, u4, u5, u6⟩ := op_at HAT.out.r260
 dsimp only at c0 c1 c2 c3 c267 u0 u1 u2 u3 u4 u5 u6
 rw [Nat.zero_add] at c1 c2 c3 c267
 simp only [Nat.zero_add, Nat.reduceAdd] at u0 u1 u2 u3 u4 u5 u6
 go_cut [3] (fun s wx => s = .bool (decide (1 ≤ vol ∧ vol < 4294967296)) ∧ W0 = wx)
 case first =>
  as_aux_lemma =>
   go_wp2_with fail
   all_goals
    go_meet
    refine ⟨val_bool ?_, rfl⟩
    rw [Bool.eq_iff_iff]
    try simp only [Bool.and_eq_true, Bool.or_eq_true, decide_eq_true_eq, bne_iff_ne, beq_iff_eq, ne_eq, Bool.false_eq_true, false_iff, iff_false, true_or, or_true, true_iff, iff_true, true_and, and_true]
    omega
 case rest =>
 obtain ⟨rfl, rfl⟩ := hcut
 generalize hbv : decide (1 ≤ vol ∧ vol < 4294967296) = bv
 have HBV := Lib.hid hbv
 clear hbv
 go_upto_region 2 with fail
 go_cut [4] (fun s wx => s = .bool (decide (0 ≤ size ∧ size ≤ 256)) ∧ W0 = wx)
 case first =>
  as_aux_lemma =>
   go_wp2_with fail
   all_goals
    go_meet
    refine ⟨val_bool ?_, rfl⟩
    rw [Bool.eq_iff_iff]
    try simp only [Bool.and_eq_true, Bool.or_eq_true, decide_eq_true_eq, bne_iff_ne, beq_iff_eq, ne_eq, Bool.false_eq_true, false_iff, iff_false, true_or, or_true, true_iff, iff_true, true_and, and_true]
    omega
 case rest =>
 obtain ⟨rfl, rfl⟩ := hcut
 generalize hbs : decide (0 ≤ size ∧ size ≤ 256) = bs
 have HBS := Lib.hid hbs
 clear hbs
 go_upto_region 3 with fail
 go_cut [5] (fun s wx => s = .bool (decide (0 ≤ blk ∧ blk < 256)) ∧ W0 = wx)
 case first =>
  as_aux_lemma =>
   go_wp2_with fail
   all_goals
    go_meet
    refine ⟨val_bool ?_, rfl⟩
    rw [Bool.eq_iff_iff]
    try simp only [Bool.and_eq_true, Bool.or_eq_true, decide_eq_true_eq, bne_iff_ne, beq_iff_eq, ne_eq, Bool.false_eq_true, false_iff, iff_false, true_or, or_true, true_iff, iff_true, true_and, and_true]
    omega
 case rest =>
 obtain ⟨rfl, rfl⟩ := hcut
 generalize hbb : decide (0 ≤ blk ∧ blk < 256) = bb
 have HBB := Lib.hid hbb
 clear hbb
 go_upto_region 4 with fail
 go_cut [6] (fun s wx => s = .bool (mayO op && decide (0 ≤ blocks ∧ blocks ≤ 1048576)) ∧ IM w AL wx)
 case first =>
  as_aux_lemma =>
   generalize mayO op = mo at *
   unfold oC at CM
   go_wp2_with fail
   refine (CM.out _ HB.out).mono ?_
   rintro e w1 ⟨rfl, hb1⟩
   have HI1 := Lib.hid (HI.out.mono hb1)
   have c267' : w1.cell? ⟨w.heap.size, 267, none⟩ = some (.int .i64 blocks) := by
    have h := (it_at (HAL.out ▸ range_block HI1.out.1) HOK.out.data).c267
    dsimp only at h
    rwa [Nat.zero_add] at h
   clear hb1 u0 u1 u2 u3 u4 u5 u6 c0 c1 c2 c3 c267
   cases mo
   all_goals
    go_wp2_with fail
    all_goals
     go_meet
     refine ⟨val_bool ?_, HI1.out⟩
     rw [Bool.eq_iff_iff]
     try simp only [Bool.and_eq_true, Bool.or_eq_true, decide_eq_true_eq, bne_iff_ne, beq_iff_eq, ne_eq, Bool.false_eq_true, false_iff, iff_false, true_or, or_true, true_iff, iff_true, true_and, and_true, false_and]
     try omega
 case rest =>
 obtain ⟨rfl, hI⟩ := hcut
 have HI4 := Lib.hid hI
 generalize hbo : (mayO op && decide (0 ≤ blocks ∧ blocks ≤ 1048576)) = bo
 have HBO := Lib.hid hbo
 clear hbo hI u0 u1 u2 u3 u4 u5 u6 c0 c1 c2 c3 c267 HAT
 go_upto_region 5 with fail
 have HAT4 := Lib.hid (it_at (HAL.out ▸ range_block HI4.out.1) HOK.out.data)
 have c0 := HAT4.out.c0
 have c1 := HAT4.out.c1
 have c2 := HAT4.out.c2
 have c3 := HAT4.out.c3
 have c267 := HAT4.out.c267
 obtain ⟨u0, u1, u2, u3, u4, u5, u6⟩ := op_at HAT4.out.r260
 have HR4 : Hid (wc.rangeAt w.heap.size 4 (bV data)) := Lib.hid (by
  have h := HAT4.out.r4
  dsimp only at h
  rwa [Nat.zero_add] at h)
 dsimp only at c0 c1 c2 c3 c267 u0 u1 u2 u3 u4 u5 u6
 rw [Nat.zero_add] at c1 c2 c3 c267
 simp only [Nat.zero_add, Nat.reduceAdd] at u0 u1 u2 u3 u4 u5 u6
 go_cut [7] (fun s wx => s = .bool (decide (op.k = 0 ∧ (op.vol : Int) = 0 ∧ (op.to : Int) = 0 ∧ op.size = 0 ∧ op.pl = 0 ∧ op.count = 0 ∧ (op.data.length : Int) = 0 ∧ blocks = 0)) ∧ wc = wx)
 case first =>
  as_aux_lemma =>
   have hnl : op.data.length ≤ 9223372036854775807 := HLN.out
   clear HAT4 HR4 HBO CM HAL HD HM
   generalize op.data.length = n at *
   go_wp2_with fail
   all_goals
    go_meet
    refine ⟨val_bool ?_, rfl⟩
    first
    | (simp [*]; done)
    | (simp_all; done)
    | (rw [Bool.eq_iff_iff]; simp; omega)
 case rest =>
 obtain ⟨rfl, rfl⟩ := hcut
 generalize hbn : decide (op.k = 0 ∧ (op.vol : Int) = 0 ∧ (op.to : Int) = 0 ∧ op.size = 0 ∧ op.pl = 0 ∧ op.count = 0 ∧ (op.data.length : Int) = 0 ∧ blocks = 0) = bn
 have HBN := Lib.hid hbn
 clear hbn u0 u1 u2 u3 u4 u5 u6 c267
 have HDL : Hid ((Tryz.prog.info? 76).map (·.size) = some (bV data).length) := Lib.hid (by rw [bV_len, HOK.out.data]; exact infoBk)
 have HZB := Lib.hid (fun W => zero_blk W data HOK.out.data)
 go_upto_region 6 with fail
 go_cut [8] (fun s wx => s = .bool (data == z256) ∧ wc = wx)
 case first =>
  as_aux_lemma =>
   have hzb := HZB.out
   go_wp2_with (refine wpList_load_mid rfl 76 _ rfl w.heap.size 4 rfl (bV data) _ HR4.out Tryz.underlying76 rfl HDL.out ?_)
   go_meet
   exact ⟨rfl, rfl⟩
 case rest =>
 obtain ⟨rfl, rfl⟩ := hcut
 generalize hbd : (data == z256) = bd
 have HBD := Lib.hid hbd
 clear hbd HR4 HDL HZB
 have HBW := Lib.hid HI4.out.2
 have HMK : Hid (rr = true ↔ (k = 1 ∧ bv = true ∧ size = 0 ∧ blk = 0 ∧ bd = true ∧ bn = true) ∨ (k = 2 ∧ bv = true ∧ bs = true ∧ blk = 0 ∧ bd = true ∧ bn = true) ∨ (k = 3 ∧ bv = true ∧ size = 0 ∧ bb = true ∧ bd = true ∧ bn = true) ∨ (k = 4 ∧ bv = true ∧ size = 0 ∧ bb = true ∧ bn = true) ∨ (k = 5 ∧ vol = 0 ∧ size = 0 ∧ blk = 0 ∧ bd = true ∧ bo = true)) := Lib.hid (by
  have hn : NoneI ⟨k, vol, size, blk, data, op, blocks⟩ ↔ bn = true := by
   rw [← HBN.out, decide_eq_true_iff]
   obtain ⟨a1, a2, a3, a4, a5, a6, a7⟩ := op
   unfold NoneI op0
   dsimp only
   constructor
   ·rintro ⟨h, h2⟩
    injection h with h3 h4 h5 h6 h7 h8 h9
    subst h9
    refine ⟨h3, by omega, by omega, h6, h7, h8, by simp, h2⟩
   ·rintro ⟨h3, h4, h5, h6, h7, h8, h9, h10⟩
    have e : a7 = [] := List.length_eq_zero_iff.1 (by omega)
    have e2 : a2 = 0 := by omega
    have e3 : a3 = 0 := by omega
    subst e e2 e3 h3 h6 h7 h8
    exact ⟨rfl, h10⟩
  have h1 : VolI ⟨k, vol, size, blk, data, op, blocks⟩ ↔ bv = true := by rw [← HBV.out, decide_eq_true_iff]; rfl
  have h2 : (0 ≤ size ∧ size ≤ 256) ↔ bs = true := by rw [← HBS.out, decide_eq_true_iff]
  have h3 : BlkI ⟨k, vol, size, blk, data, op, blocks⟩ ↔ bb = true := by rw [← HBB.out, decide_eq_true_iff]; rfl
  have h4 : data = z256 ↔ bd = true := by rw [← HBD.out, beq_iff_eq]
  have h5 : (mayO op = true ∧ 0 ≤ blocks ∧ blocks ≤ 1048576) ↔ bo = true := by rw [← HBO.out, Bool.and_eq_true, decide_eq_true_iff]
  rw [HM.out]
  unfold MayI
  dsimp only
  rw [h1, h2, h3, h4, hn, h5])
 clear HBV HBS HBB HBN HBD HBO HM HAT4 HI HI4 HAL HD CM HLN
 clear HOK
 by_cases k1 : k = 1
 ·subst k1
  as_aux_lemma =>
   go_wp2_with fail
   all_goals
    go_ret
    refine ⟨ret_bool ?_, HBW.out⟩
    have hmk := HMK.out
    rw [Bool.eq_iff_iff, hmk]
    clear hmk
    first
    | (simp_all; done)
    | (simp_all; omega)
    | omega
 by_cases k2 : k = 2
 ·subst k2
  clear k1
  as_aux_lemma =>
   go_wp2_with fail
   all_goals
    go_ret
    refine ⟨ret_bool ?_, HBW.out⟩
    have hmk := HMK.out
    rw [Bool.eq_iff_iff, hmk]
    clear hmk
    first
    | (simp_all; done)
    | (simp_all; omega)
    | omega
 by_cases k3 : k = 3
 ·subst k3
  clear k1 k2
  as_aux_lemma =>
   go_wp2_with fail
   all_goals
    go_ret
    refine ⟨ret_bool ?_, HBW.out⟩
    have hmk := HMK.out
    rw [Bool.eq_iff_iff, hmk]
    clear hmk
    first
    | (simp_all; done)
    | (simp_all; omega)
    | omega
 by_cases k4 : k = 4
 ·subst k4
  clear k1 k2 k3
  as_aux_lemma =>
   go_wp2_with fail
   all_goals
    go_ret
    refine ⟨ret_bool ?_, HBW.out⟩
    have hmk := HMK.out
    rw [Bool.eq_iff_iff, hmk]
    clear hmk
    first
    | (simp_all; done)
    | (simp_all; omega)
    | omega
 by_cases k5 : k = 5
 ·subst k5
  clear k1 k2 k3 k4
  as_aux_lemma =>
   go_wp2_with fail
   all_goals
    go_ret
    refine ⟨ret_bool ?_, HBW.out⟩
    have hmk := HMK.out
    rw [Bool.eq_iff_iff, hmk]
    clear hmk
    first
    | (simp_all; done)
    | (simp_all; omega)
    | omega
 have g1 := bneI k1
 have g2 := bneI k2
 have g3 := bneI k3
 have g4 := bneI k4
 have g5 := bneI k5
 have HE : Hid (rr = false) := Lib.hid (by
  rw [Bool.eq_false_iff]
  intro h
  have := HMK.out.1 h
  omega)
 clear k1 k2 k3 k4 k5
 as_aux_lemma =>
  go_wp2_with fail
  go_ret
  exact ⟨by rw [HE.out]; rfl, HBW.out⟩
end Go.Proofs.YtgkelbdgdhkeoaaGreat
