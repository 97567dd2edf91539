/- super: Block, refused, walked. -/
import Derived.Test.YtcdobdjemlaaaaaGreatSb0
namespace Go.Proofs.YtcdobdjemlaaaaaGreat
open Go.RowKit Wire
set_option linter.unusedVariables false
set_option linter.unusedSimpArgs false

set_option maxRecDepth 100000 in
set_option maxHeartbeats 6400000 in
theorem sblock_no (w : World) (s : Su) (h : s.mt < 16) : Calls Tryz.prog 128 #[suV s] w fun e w' => e = .returned (.tuple #[bA (zeros 256), .int .i64 2]) ∧ Below w.heap.size w w' := by
  have CMX : Hid (∀ X, Calls Tryz.prog 80 #[suV s] X fun e w' => e = .returned (.bool false) ∧ Below X.heap.size X w') := Lib.hid (fun X => smay_no X s h)
  obtain ⟨SL, hSL, hSn, hS1⟩ := suV_list s
  rw [hSL] at CMX ⊢
  clear hSL h
  obtain ⟨w1, hw1⟩ : ∃ W, w.alloc (.cells SL.toArray 29) = W := ⟨_, rfl⟩
  have hb1 : Below w.heap.size w w1 := by rw [← hw1]; exact balloc (Below.refl _ _) _
  have hx1 : w1.heap[w.heap.size]? = some (.cells SL.toArray 29 (0, 0)) := by rw [← hw1]; exact heap_alloc_new _ _
  obtain ⟨w2, hw2⟩ : ∃ W, w1.alloc (.cells Tryz.zeroCells50 50) = W := ⟨_, rfl⟩
  have hb2 : Below w1.heap.size w1 w2 := by rw [← hw2]; exact balloc (Below.refl _ _) _
  obtain ⟨R, hR⟩ : ∃ R, zeros 256 = R := ⟨_, rfl⟩
  have hx2 : BoxB w2 w1.heap.size R := by
    have e : (bV (zeros 256)).toArray = Tryz.zeroCells50 := by
      show (bV (List.replicate 256 0)).toArray = _
      kernel_rfl
    unfold BoxB
    rw [← hR, e, ← hw2]; exact heap_alloc_new _ _
  have HRL : Hid (R.length = 256) := Lib.hid (by rw [← hR]; exact List.length_replicate)
  rw [hR]
  have HB1 := Lib.hid hb1
  have HX2 := Lib.hid hx2
  have HB12 := Lib.hid hb2
  have HQ : Hid (w2.rangeAt w.heap.size 0 SL) := Lib.hid (rangeOf ((hb2.block _ (Array.getElem?_eq_some_iff.1 hx1).1).trans hx1))
  have HIS : Hid ((Tryz.prog.info? 29).map (·.size) = some SL.length) := Lib.hid (by rw [hSn]; exact infoSup)
  have hrb : (bV R).toArray.size = 256 := by rw [List.size_toArray, bV_len, HRL.out]
  clear hb1 hx1 hb2 hx2 hR
  go_enter Tryz.func128, Tryz.ntmps128
  go_upto_region 1 with fail
  (try rw [hw1, hw2])
  apply wp_region_lit
  repeat (first
    | (refine wpList_load_mid rfl 29 _ rfl w.heap.size 0 rfl SL _ HQ.out Tryz.underlying29 rfl HIS.out ?_)
    | go_step)
  refine (CMX.out w2).mono ?_
  rintro e w3 ⟨rfl, hb3⟩
  dsimp only
  have hx3 : BoxB w3 w1.heap.size R := (hb3.block _ (Array.getElem?_eq_some_iff.1 HX2.out).1).trans HX2.out
  have HRA : Hid (w3.rangeAt w1.heap.size 0 (bV R)) := Lib.hid (rangeOf hx3)
  have HTH : Hid (w3.there w1.heap.size 0 256) := Lib.hid (thereOf hx3 (by rw [hrb]; exact Nat.le_refl _))
  have HB3 : Hid (Below w1.heap.size w1 w3) := Lib.hid (bthn HB12.out hb3)
  clear hb3 hx3 hw1 hw2
  go_wp2_with (first
    | (refine wpList_load_mid rfl 50 _ rfl w1.heap.size 0 rfl (bV R) _ HRA.out Tryz.underlying50 rfl (by rw [bV_len, HRL.out]; exact infoBlk) ?_)
    | (refine wpList_store_mid rfl 50 _ _ rfl w1.heap.size 0 (bV R).toArray rfl rfl (by rw [hrb]; exact HTH.out) (by rw [hrb]; exact infoBlk) (blk_one R) ?_))
  refine bodyPost_ret (v := .tuple #[bA R, .int .i64 2]) (res_blk rfl _ _ w1.heap.size R _ rfl rfl (World.rangeAt_setCells_same _ _ _ _ (by rw [bV_len, HRL.out]; exact HTH.out)) HRL.out) rfl ⟨rfl, ?_⟩
  exact bthn HB1.out (belowSets (Nat.le_refl _) _ _ _ HB3.out)
end Go.Proofs.YtcdobdjemlaaaaaGreat
