/- The law MessageItems, walked. -/
import Derived.Deep.CutBlock
import Derived.Test.YtgkelbdgdhkeoaaMOfC
import Derived.Test.YtgkelbdgdhkeoaaMsg23
import Derived.Test.YtgkelbdgdhkeoaaMsg2
namespace Go.Proofs.Ytgkelbdgdhkeoaa
open Go.RowKit
set_option linter.unusedVariables false
set_option linter.unusedSimpArgs false
open Wire Cmd

/-- The message that the law makes of an item. -/
def m8 (i : It0) (a b : Nat) : Ms0 := { msK 8 0 with num := a, seq := b, item := i }
theorem m8_may (i : It0) (a b : Nat) : mayM (m8 i a b) = mayI i := by
  have h : bareM (m8 i a b) (nmM (m8 i a b).k) = m8 i a b := rfl
  unfold mayM
  have k110 : kept (((110 : UInt8).toNat : Nat) : Int) (m8 i a b) = true := rfl
  have k115 : kept (((115 : UInt8).toNat : Nat) : Int) (m8 i a b) = true := rfl
  have k105 : kept (((105 : UInt8).toNat : Nat) : Int) (m8 i a b) = mayI i := rfl
  rw [h, msEq_yes rfl, show nmM (m8 i a b).k = [110, 115, 105] from rfl, show decide (1 ≤ (m8 i a b).k) = true from rfl, show decide ((m8 i a b).k ≤ 15) = true from rfl]
  simp only [List.all_cons, List.all_nil, k110, k115, k105, Bool.true_and, Bool.and_true]
theorem m8_len (i : It0) (a b : Nat) : (bsM (m8 i a b)).length = 25 + (itB i).length := by
  have e : bsM (m8 i a b) = hdB (m8 i a b) ++ (low a 8 ++ (low b 8 ++ (itB i ++ []))) := rfl
  rw [e]
  simp only [List.length_append, hdB_len, low_len, List.length_nil]
  omega
theorem m8_ok {i : It0} (ok : i.Ok) {a b : Nat} (ha : a < 18446744073709551616) (hb : b < 18446744073709551616) : (m8 i a b).Ok :=
  have h := okK (k := 8) (by decide)
  ⟨h.k, h.epoch, h.st, hb, h.op, h.blocks, ha, h.fro, h.ne, h.ns, ok⟩
theorem itB_len (i : It0) (h : mayI i = true) (hd : i.data.length = 256) : (i.k = 1 ∧ (itB i).length = 5) ∨ (i.k = 2 ∧ (itB i).length = 7) ∨ (i.k = 3 ∧ (itB i).length = 7) ∨ (i.k = 4 ∧ (itB i).length = 263) ∨ (i.k = 5 ∧ mayO i.op = true ∧ (itB i).length = 9 + (opB i.op).length) := by
  obtain ⟨k, vol, size, blk, data, op, blocks⟩ := i
  rcases mayI_iff.1 h with ⟨h, _⟩ | ⟨h, _⟩ | ⟨h, _⟩ | ⟨h, _⟩ | ⟨h, _, _, _, _, ho, _⟩
  · have h' : k = 1 := h
    subst h'
    exact .inl ⟨rfl, by show (low (toU 1) 1 ++ low vol 4).length = 5; rw [List.length_append, low_len, low_len]⟩
  · have h' : k = 2 := h
    subst h'
    exact .inr (.inl ⟨rfl, by show (low (toU 2) 1 ++ (low vol 4 ++ low (toU size) 2)).length = 7; simp only [List.length_append, low_len]⟩)
  · have h' : k = 3 := h
    subst h'
    exact .inr (.inr (.inl ⟨rfl, by show (low (toU 3) 1 ++ (low vol 4 ++ low (toU blk) 2)).length = 7; simp only [List.length_append, low_len]⟩))
  · have h' : k = 4 := h
    subst h'
    have hd' : data.length = 256 := hd
    exact .inr (.inr (.inr (.inl ⟨rfl, by show (low (toU 4) 1 ++ (low vol 4 ++ (low (toU blk) 2 ++ data))).length = 263; simp only [List.length_append, low_len, hd']⟩)))
  · have h' : k = 5 := h
    subst h'
    exact .inr (.inr (.inr (.inr ⟨rfl, ho, by show (low (toU 5) 1 ++ ((low (opB op).length 4 ++ opB op) ++ low (toU blocks) 4)).length = 9 + (opB op).length; simp only [List.length_append, low_len]; omega⟩)))
theorem fold_set (o : Nat) : ∀ (Y : List Value) (k : Nat) (A X B : List Value), A.length = o + k → X.length = Y.length → (Y.zipIdx k).foldl (fun cs x => cs.setIfInBounds (o + x.snd) x.fst) (A ++ (X ++ B)).toArray = (A ++ (Y ++ B)).toArray
  | [], k, A, X, B, hA, hX => by
    have : X = [] := List.length_eq_zero_iff.1 hX
    subst this
    rfl
  | y :: Y, k, A, X, B, hA, hX => by
    cases X with
    | nil => simp at hX
    | cons x X =>
      rw [List.zipIdx_cons, List.foldl_cons]
      have e : ((A ++ ((x :: X) ++ B)).toArray).setIfInBounds (o + k) y = ((A ++ [y]) ++ (X ++ B)).toArray := by
        apply Array.toList_inj.1
        rw [Array.toList_setIfInBounds, ← hA]
        simp
      dsimp only
      rw [e, fold_set o Y (k + 1) (A ++ [y]) X B (by rw [List.length_append, hA]; rfl) (by simpa using hX)]
      simp
theorem m8_zero (a b : Nat) : ((Try.zeroCells81.setIfInBounds 0 (.int .i64 8)).setIfInBounds 18 (.int .u64 (a : Int))).setIfInBounds 9 (.int .u64 (b : Int)) = (msL (m8 it0 a b) (.slice none 0 0) (.slice none 0 0)).toArray := by kernel_rfl
theorem m8_arr (i : It0) (hd : i.data.length = 256) (a b : Nat) (sl : Value) : List.foldl (fun cs x => cs.setIfInBounds (22 + x.snd) x.fst) (((Try.zeroCells81.setIfInBounds 0 (.int .i64 8)).setIfInBounds 18 (.int .u64 (a : Int))).setIfInBounds 9 (.int .u64 (b : Int))) (itL i sl).zipIdx = (msL (m8 i a b) (.slice none 0 0) sl).toArray := by
  rw [m8_zero, msL_item (m8 it0 a b), msL_item (m8 i a b)]
  exact fold_set 22 (itL i sl) 0 _ (itL it0 (.slice none 0 0)) [] rfl (by rw [itL_len hd]; exact itL_len (i := it0) z256_len)
set_option maxRecDepth 100000 in
set_option maxHeartbeats 12800000 in
theorem messageItems_walk (i : It0) (ok : i.Ok) (a b : Nat) (ha : a < 18446744073709551616) (hb : b < 18446744073709551616) (sl : Value) (w : World) (hd : Rd w 1 sl i.op.data.length (bV i.op.data)) :
    Calls Try.prog 16 #[.agg (itL i sl).toArray, .int .u64 (a : Int), .int .u64 (b : Int)] w fun e w' => e = .returned (.bool true) ∧ Below w.heap.size w w' := by
  have HD := Lib.hid hd
  have HOK := Lib.hid ok
  have CK := Lib.hid (fun W => known19_any W)
  have hl1 : i.op.data.length ≤ 9223372036854775807 := by obtain ⟨_, _, _, _, h, _⟩ := hd; unfold maxLen at h; exact h
  obtain ⟨ao, cap, rfl⟩ := rd_slice hd
  have CMU : Hid (∀ X, Calls Try.prog 17 #[.agg (oC i.op (.slice ao i.op.data.length cap))] X fun e w' => e = .returned (.bool (decide (9000 < (i.op.data.length : Int)))) ∧ Below X.heap.size X w') := Lib.hid (fun X => much13_any i.op ao cap X hl1)
  obtain ⟨AL, hAL, hal⟩ : ∃ L, itL i (.slice ao i.op.data.length cap) = L ∧ L.length = 268 := ⟨_, rfl, itL_len ok.data⟩
  have HAL := Lib.hid hAL
  obtain ⟨W0, hW0⟩ : ∃ W, w.alloc (.cells AL.toArray 79) = W := ⟨_, rfl⟩
  have HBB : Hid (Below w.heap.size w W0) := Lib.hid (by rw [← hW0]; exact balloc (Below.refl _ _) _)
  have HRA : Hid (∀ X, Below W0.heap.size W0 X → X.rangeAt w.heap.size 0 AL) := Lib.hid (fun X hX => by rw [← hW0] at hX; exact box_later hX)
  have HAT : Hid (∀ X, Below W0.heap.size W0 X → ItAt X w.heap.size 0 i (.slice ao i.op.data.length cap)) := Lib.hid (fun X hX => it_at (by rw [hAL]; exact HRA.out X hX) HOK.out.data)
  have HI : Hid ((Try.prog.info? 79).map (·.size) = some AL.length) := Lib.hid (by rw [hal]; exact infoIt)
  obtain ⟨u0, u1, u2, u3, u4, u5, u6⟩ := op_at (HAT.out _ (Below.refl _ _)).r260
  simp only [Nat.zero_add, Nat.reduceAdd] at u0 u1 u2 u3 u4 u5 u6
  rw [hAL]
  clear hd ok hAL hal
  unfold oC at CMU
  by_cases h9 : 9000 < (i.op.data.length : Int)
  · rw [decide_eq_true h9] at CMU
    clear h9
    go_enter Try.func16, Try.ntmps16
    go_wp2_with fail
    refine (CMU.out _).mono ?_
    rintro e w1 ⟨rfl, hb1⟩
    replace HBB := Lib.hid (bthen HBB.out hb1)
    clear hb1 hW0 u0 u1 u2 u3 u4 u5 u6
    go_wp2_with fail
    refine (CK.out _).mono ?_
    rintro e w2 ⟨rfl, hb2⟩
    have HB2 := Lib.hid (bthen HBB.out hb2)
    clear hb2
    go_wp2_with fail
    go_ret
    exact ⟨rfl, HB2.out⟩
  · rw [decide_eq_false h9] at CMU
    go_enter Try.func16, Try.ntmps16
    go_wp2_with fail
    refine (CMU.out _).mono ?_
    rintro e w1 ⟨rfl, hb1⟩
    have HB1 := Lib.hid hb1
    clear hb1 hW0 u0 u1 u2 u3 u4 u5 u6
    have hfold := m8_arr i HOK.out.data a b (.slice ao i.op.data.length cap)
    rw [HAL.out] at hfold
    have HMO := Lib.hid (m8_ok (i := i) HOK.out (a := a) (b := b) ha hb)
    obtain ⟨ML, hML, hml, hmo⟩ : ∃ L, msL (m8 i a b) (.slice none 0 0) (.slice ao i.op.data.length cap) = L ∧ L.length = 290 ∧ ∀ u ∈ L, u.oneCell' = true := ⟨_, rfl, msL_len HOK.out.data, msL_one rfl rfl⟩
    rw [hML] at hfold
    have hst := msNew w1 hml hmo
    have hal2 : AL.length = 268 := by rw [← HAL.out]; exact itL_len HOK.out.data
    have HML := Lib.hid hML
    have HIM : Hid ((Try.prog.info? 81).map (·.size) = some ML.length) := Lib.hid (infoM hml)
    clear hML hmo
    go_upto_region 4 with (refine wpList_load_mid rfl 79 _ rfl w.heap.size 0 rfl AL _ (HRA.out _ HB1.out) Try.underlying79 rfl HI.out ?_)
    clear hfold hst hal2 hml
    have HB2 : Hid (Below W0.heap.size W0 (w1.alloc (.cells ML.toArray 81))) := Lib.hid (balloc HB1.out _)
    have HRM : Hid ((w1.alloc (.cells ML.toArray 81)).rangeAt w1.heap.size 0 ML) := Lib.hid (box_later (Below.refl _ _))
    generalize w1.alloc (.cells ML.toArray 81) = w2 at *
    have CB : Hid (Calls Try.prog 49 #[.agg ML.toArray] w2 (PackP w2 (packM (m8 i a b)))) := Lib.hid (by
      rw [← HML.out]
      exact bytesM_any (m8 i a b) HMO.out (.slice none 0 0) (.slice ao i.op.data.length cap) w2 (Rd.of_own (World.ownsRow_nil w2 0 5 1)) (HD.out.below (bthen HBB.out HB2.out)))
    go_wp2_with (refine wpList_load_mid rfl 81 _ rfl w1.heap.size 0 rfl ML _ HRM.out Try.underlying81 rfl HIM.out ?_)
    refine CB.out.mono ?_
    intro e w3 hP
    obtain ⟨bs, bv, em, rfl, hcs, hbo, hb3⟩ := hP.mform HMO.out
    rw [m8_may] at hcs
    have HB3 := Lib.hid (bthen HB2.out hb3)
    have HBO := Lib.hid hbo
    have HCS := Lib.hid hcs
    have CMY : Hid (Calls Try.prog 81 #[.agg AL.toArray] w3 fun e w' => e = .returned (.bool (mayI i)) ∧ Below w3.heap.size w3 w') := Lib.hid (by
      rw [← HAL.out]
      exact rmayI_any i HOK.out (.slice ao i.op.data.length cap) w3 (HD.out.below (bthen HBB.out HB3.out)) (by omega))
    obtain ⟨aob, capb, rfl⟩ := rd_slice (Rd.of_own hbo)
    clear hP hcs hbo hb3
    go_wp2_with (refine wpList_load_mid rfl 79 _ rfl w.heap.size 0 rfl AL _ (HRA.out _ HB3.out) Try.underlying79 rfl HI.out ?_)
    refine CMY.out.mono ?_
    rintro e w4 ⟨rfl, hb4⟩
    have HB4 := Lib.hid (bthen HB3.out hb4)
    have HBW := Lib.hid (bthen HBB.out HB4.out)
    have HBR := Lib.hid ((Rd.of_own HBO.out).below hb4)
    clear hb4
    rcases HCS.out with ⟨hy, hbs, rfl⟩ | ⟨hy, rfl, rfl⟩
    rotate_left
    · rw [hy]
      have HBX := HBW
      clear hy
      go_wp2_with (first
        | (go_at_call 54; refine (num19_any _ _).mono ?_; rintro e w' ⟨rfl, rfl⟩))
      refine (CK.out _).mono ?_
      rintro e x6 ⟨rfl, hx6⟩
      have HX6 := Lib.hid (bthen HBX.out hx6)
      clear hx6
      go_wp2_with fail
      go_ret
      exact ⟨rfl, HX6.out⟩
    have HIB := Lib.hid (itB_len i hy HOK.out.data)
    have HLN : Hid (bs.length = 25 + (itB i).length) := Lib.hid (by rw [hbs]; exact m8_len i a b)
    have HLE : Hid (bs.length ≤ 40000) := Lib.hid (by rw [hbs]; exact bsM_len HMO.out (by rw [m8_may]; exact hy))
    have HOM : Hid (ofM bs = some (m8 i a b)) := Lib.hid (by rw [hbs]; exact ofM_packM HMO.out (by rw [m8_may]; exact hy))
    have HSM : Hid ((opB i.op).length ≤ 7000) := Lib.hid (mayI_opl hy)
    rw [hy]
    obtain ⟨n, hn⟩ : ∃ n, bs.length = n := ⟨_, rfl⟩
    have HNN := Lib.hid hn
    rw [hn] at HBR HLN HLE ⊢
    clear hy hbs hn
    have h9' : i.op.data.length ≤ 9000 := by omega
    have H9 := Lib.hid h9'
    clear h9 h9'
    have hk0 := (HAT.out w4 HB4.out).c0
    go_upto_block 0 with fail
    go_cut [10, 36] (fun t z wx => ∃ W, W = wx ∧ t = .int .i64 (n : Int) ∧ Below w4.heap.size w4 W)
    case first =>
      rcases HIB.out with ⟨hk, hl⟩ | ⟨hk, hl⟩ | ⟨hk, hl⟩ | ⟨hk, hl⟩ | ⟨hk, ho, hl⟩
      · have hn : n = 30 := by have := HLN.out; omega
        rw [hk]
        clear hk hl hk0
        subst hn
        go_wp2_with fail
        go_meet
        exact ⟨_, rfl, rfl, Below.refl _ _⟩
      · have hn : n = 32 := by have := HLN.out; omega
        rw [hk]
        clear hk hl hk0
        subst hn
        go_wp2_with fail
        go_meet
        exact ⟨_, rfl, rfl, Below.refl _ _⟩
      · have hn : n = 32 := by have := HLN.out; omega
        rw [hk]
        clear hk hl hk0
        subst hn
        go_wp2_with fail
        go_meet
        exact ⟨_, rfl, rfl, Below.refl _ _⟩
      · have hn : n = 288 := by have := HLN.out; omega
        rw [hk]
        clear hk hl hk0
        subst hn
        go_wp2_with fail
        go_meet
        exact ⟨_, rfl, rfl, Below.refl _ _⟩
      · rw [hk]
        clear hk0
        obtain ⟨u0, u1, u2, u3, u4, u5, u6⟩ := op_at (HAT.out w4 HB4.out).r260
        simp only [Nat.zero_add, Nat.reduceAdd] at u0 u1 u2 u3 u4 u5 u6
        obtain ⟨ps, hps, hpk⟩ := packO_some ho
        have hpl : (opB i.op).length = ps.length := by rw [opB_of hps]
        have CP : Hid (Calls Try.prog 27 #[.agg (oC i.op (.slice ao i.op.data.length cap))] w4 fun e w' => ∃ v', e = .returned v' ∧ w'.ownsRow w4.heap.size 5 1 v' ps.length (bV ps) ∧ Below w4.heap.size w4 w') := Lib.hid (rpackO_any i.op HOK.out.op _ w4 (HD.out.below HBW.out) (by have := H9.out; omega) ps hpk)
        unfold oC at CP
        have HPL : Hid (ps.length ≤ 7000 ∧ n = 34 + ps.length) := Lib.hid (by have h1 := HLN.out; have h2 := HSM.out; omega)
        clear hk ho hl hps hpk hpl
        go_wp2_with fail
        refine CP.out.mono ?_
        rintro e w5 ⟨v5, rfl, ho5, hb5⟩
        have HB5 := Lib.hid hb5
        obtain ⟨ap, cp, rfl⟩ := rd_slice (Rd.of_own ho5)
        clear ho5 hb5 u0 u1 u2 u3 u4 u5 u6
        obtain ⟨pl, hpl⟩ : ∃ l, ps.length = l := ⟨_, rfl⟩
        rw [hpl] at HPL ⊢
        have hp1 := HPL.out.1
        clear hpl
        go_wp2_with fail
        go_meet
        have hn := HPL.out.2
        exact ⟨_, rfl, by rw [hn]; go_num, HB5.out⟩
    case rest =>
      obtain ⟨w5, rfl, rfl, hb5⟩ := hcut
      clear hk0
      have HB5 := Lib.hid (bthen HB4.out hb5)
      have HBR5 := Lib.hid (HBR.out.below hb5)
      clear hb5
      have CO := Lib.hid (ofM_own bs (.slice aob n capb) w5 (by rw [HNN.out]; exact HBR5.out) (by have := HLE.out; rw [HNN.out]; omega))
      go_wp2_with fail
      refine CO.out.mono ?_
      rw [HOM.out]
      rintro e w6 ⟨hb6, t1, t2, rfl, ho1, ho2⟩
      have hom : oM (some (m8 i a b)) = m8 i a b := rfl
      rw [hom] at ho1 ho2
      rw [hom]
      obtain ⟨DL, hDL, hdl, hdo⟩ : ∃ L, msL (m8 i a b) t1 t2 = L ∧ L.length = 290 ∧ ∀ u ∈ L, u.oneCell' = true := ⟨_, rfl, msL_len HOK.out.data, msL_one (oneOwn ho1) (oneOwn ho2)⟩
      rw [hDL]
      have hst := msNew w6 hdl hdo
      have HB6 : Hid (Below W0.heap.size W0 (w6.alloc (.cells DL.toArray 81))) := Lib.hid (bthen HB5.out (balloc hb6 _))
      have HRD : Hid ((w6.alloc (.cells DL.toArray 81)).rangeAt w6.heap.size 0 DL) := Lib.hid (box_later (Below.refl _ _))
      have HT2 : Hid (Rd (w6.alloc (.cells DL.toArray 81)) 1 t2 i.op.data.length (bV i.op.data)) := Lib.hid ((Rd.of_own ho2).below (balloc (Below.refl _ _) _))
      have HDL := Lib.hid hDL
      have e0 : eA (some (m8 i a b)) = 0 := rfl
      rw [e0]
      clear hom e0 hDL hdo ho1 ho2 hb6 CO
      go_upto_region 19 with fail
      clear hst hdl
      generalize w6.alloc (.cells DL.toArray 81) = w7 at *
      have hms := ms_at (m := m8 i a b) (s1 := t1) (s2 := t2) (by rw [HDL.out]; exact HRD.out)
      have HC : Hid (w7.cell? ⟨w6.heap.size, 18, none⟩ = some (.int .u64 (a : Int)) ∧ w7.cell? ⟨w6.heap.size, 9, none⟩ = some (.int .u64 (b : Int))) := Lib.hid ⟨hms.c18, hms.c9⟩
      obtain ⟨IL, hIL, hil⟩ : ∃ L, itL i t2 = L ∧ L.length = 268 := ⟨_, rfl, itL_len HOK.out.data⟩
      have HRI : Hid (w7.rangeAt w6.heap.size 22 IL) := Lib.hid (by rw [← hIL]; exact hms.r22)
      have HII : Hid ((Try.prog.info? 79).map (·.size) = some IL.length) := Lib.hid (by rw [hil]; exact infoIt)
      have CS : Hid (Calls Try.prog 53 #[.agg IL.toArray, .agg AL.toArray] w7 fun e w' => e = .returned (.bool true) ∧ Below w7.heap.size w7 w') := Lib.hid (by
        have h := rsameI_any i i t2 (.slice ao i.op.data.length cap) w7 HOK.out.data HOK.out.data HT2.out (HD.out.below (bthen HBB.out HB6.out))
        rw [hIL, HAL.out, itEq_yes rfl] at h
        exact h)
      have HLT : Hid (w6.heap.size < w7.heap.size) := Lib.hid (by
        have := HC.out.1
        exact World.block_lt_of_cell? w7 _ this)
      clear hms hIL hil
      go_wp2_with (first
        | (go_at_call 54; refine (num19_any _ _).mono ?_; rintro e w' ⟨rfl, rfl⟩)
        | (refine wpList_load_met (by kernel_rfl) 79 _ rfl w6.heap.size 22 rfl IL _ HRI.out Try.underlying79 rfl HII.out ?_)
        | (refine wpList_load_met (by kernel_rfl) 79 _ rfl w.heap.size 0 rfl AL _ (HRA.out _ HB6.out) Try.underlying79 rfl HI.out ?_))
      refine CS.out.mono ?_
      rintro e w8 ⟨rfl, hb8⟩
      have HB8 := Lib.hid (bthen HBB.out (bthen HB6.out hb8))
      have g18 := (hb8.cell (p := ⟨w6.heap.size, 18, none⟩) HLT.out).trans HC.out.1
      have g9 := (hb8.cell (p := ⟨w6.heap.size, 9, none⟩) HLT.out).trans HC.out.2
      clear hb8
      go_wp2_with fail
      clear g18 g9
      refine (CK.out _).mono ?_
      rintro e x6 ⟨rfl, hx6⟩
      have HX6 := Lib.hid (bthen HB8.out hx6)
      clear hx6
      go_wp2_with fail
      go_ret
      exact ⟨rfl, HX6.out⟩
end Go.Proofs.Ytgkelbdgdhkeoaa
