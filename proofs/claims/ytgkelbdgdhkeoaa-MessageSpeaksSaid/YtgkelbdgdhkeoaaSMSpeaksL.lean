/- The law MessageSpeaks, walked. -/
import Derived.Deep.RegionHeld3
import Derived.Test.YtgkelbdgdhkeoaaSMOfC
import Derived.Test.YtgkelbdgdhkeoaaSMsg35
import Derived.Test.YtgkelbdgdhkeoaaSMsg27
namespace Go.Proofs.Ytgkelbdgdhkeoaa
open Go.RowKit
set_option linter.unusedVariables false
set_option linter.unusedSimpArgs false
open Wire Cmd
set_option maxRecDepth 100000 in
set_option maxHeartbeats 12800000 in
theorem messageSpeaks_walk (m : Ms0) (ok : m.Ok) (s1 s2 : Value) (w : World) (hd1 : Rd w 1 s1 m.op.data.length (bV m.op.data)) (hd2 : Rd w 1 s2 m.item.op.data.length (bV m.item.op.data)) :
  Calls Try.prog 13 #[.agg (msL m s1 s2).toArray] w fun e w' => e = .returned (.bool true) ∧ Below w.heap.size w w' := by
 have HD1 := Lib.hid hd1
 have HD2 := Lib.hid hd2
 have HOK := Lib.hid ok
 have CK := Lib.hid (fun W => known19_any W)
 have hl1 : m.op.data.length ≤ 9223372036854775807 := by obtain ⟨_, _, _, _, h, _⟩ := hd1; unfold maxLen at h; exact h
 have hl2 : m.item.op.data.length ≤ 9223372036854775807 := by obtain ⟨_, _, _, _, h, _⟩ := hd2; unfold maxLen at h; exact h
 obtain ⟨AL, hAL, hal⟩ : ∃ L, msL m s1 s2 = L ∧ L.length = 290 := ⟨_, rfl, msL_len ok.item.data⟩
 have HAL := Lib.hid hAL
 have CMU : Hid (∀ X, Below w.heap.size w X → Calls Try.prog 47 #[.agg AL.toArray] X fun e w' => e = .returned (.bool (decide (9000 < (m.op.data.length : Int)) || decide (9000 < (m.item.op.data.length : Int)))) ∧ Below X.heap.size X w') := Lib.hid (fun X hX => by
  rw [← hAL]
  exact much19_any m s1 s2 X ok.item.data (hd1.below hX) (hd2.below hX) hl1 hl2)
 have CB : Hid (∀ X, Below w.heap.size w X → Calls Try.prog 49 #[.agg AL.toArray] X (PackP X (packM m))) := Lib.hid (fun X hX => by
  rw [← hAL]
  exact bytesM_any m ok s1 s2 X (hd1.below hX) (hd2.below hX))
 have CMY : Hid (∀ X, Below w.heap.size w X → Calls Try.prog 75 #[.agg AL.toArray] X fun e w' => e = .returned (.bool (mayM m)) ∧ Below X.heap.size X w') := Lib.hid (fun X hX => by
  rw [← hAL]
  exact mayM_any m ok s1 s2 X (hd1.below hX) (hd2.below hX))
 have HI : Hid ((Try.prog.info? 81).map (·.size) = some AL.length) := Lib.hid (infoM hal)
 obtain ⟨W0, hW0⟩ : ∃ W, w.alloc (.cells AL.toArray 81) = W := ⟨_, rfl⟩
 have HBB : Hid (Below w.heap.size w W0) := Lib.hid (by rw [← hW0]; exact balloc (Below.refl _ _) _)
 have HRA : Hid (∀ X, Below W0.heap.size W0 X → X.rangeAt w.heap.size 0 AL) := Lib.hid (fun X hX => by rw [← hW0] at hX; exact box_later hX)
 have HK0 : Hid (∀ X, Below W0.heap.size W0 X → X.cell? ⟨w.heap.size, 0, none⟩ = some (.int .i64 m.k)) := Lib.hid (fun X hX => (ms_at (m := m) (s1 := s1) (s2 := s2) (by rw [hAL]; exact HRA.out X hX)).c0)
 rw [hAL]
 clear hd1 hd2 ok hAL hal
 obtain ⟨mu, hmu⟩ : ∃ b, (decide (9000 < (m.op.data.length : Int)) || decide (9000 < (m.item.op.data.length : Int))) = b := ⟨_, rfl⟩
 rw [hmu] at CMU
 cases mu with
 | true =>
  clear hmu hl1 hl2
  go_enter Try.func13, Try.ntmps13
  go_wp2_with (refine wpList_load_mid rfl 81 _ rfl w.heap.size 0 rfl AL _ (HRA.out _ (Below.refl _ _)) Try.underlying81 rfl HI.out ?_)
  refine (CMU.out _ HBB.out).mono ?_
  rintro e w1 ⟨rfl, hb1⟩
  replace HBB := Lib.hid (bthen HBB.out hb1)
  clear hb1 hW0
  go_wp2_with fail
  refine (CK.out _).mono ?_
  rintro e w2 ⟨rfl, hb2⟩
  have HB2 := Lib.hid (bthen HBB.out hb2)
  clear hb2
  go_wp2_with fail
  go_ret
  exact ⟨rfl, HB2.out⟩
 | false =>
  have HS : Hid (m.op.data.length ≤ 9000 ∧ m.item.op.data.length ≤ 9000) := Lib.hid (by
   simp only [Bool.or_eq_false_iff, decide_eq_false_iff_not] at hmu
   omega)
  have CRM : Hid (∀ X, Below w.heap.size w X → Calls Try.prog 76 #[.agg AL.toArray] X fun e w' => e = .returned (.bool (mayM m)) ∧ Below X.heap.size X w') := Lib.hid (fun X hX => by
   rw [← HAL.out]
   exact rmayM_any m HOK.out (by have := HS.out.1; omega) (by have := HS.out.2; omega) s1 s2 X (HD1.out.below hX) (HD2.out.below hX))
  clear hmu hl1 hl2
  go_enter Try.func13, Try.ntmps13
  go_wp2_with (refine wpList_load_mid rfl 81 _ rfl w.heap.size 0 rfl AL _ (HRA.out _ (Below.refl _ _)) Try.underlying81 rfl HI.out ?_)
  refine (CMU.out _ HBB.out).mono ?_
  rintro e w1 ⟨rfl, hb1⟩
  have HB1 := Lib.hid hb1
  clear hb1 hW0
  go_wp2_with (refine wpList_load_mid rfl 81 _ rfl w.heap.size 0 rfl AL _ (HRA.out _ HB1.out) Try.underlying81 rfl HI.out ?_)
  refine (CB.out _ (bthen HBB.out HB1.out)).mono ?_
  intro e w2 hP
  obtain ⟨bs, bv, em, rfl, hcs, hbo, hb2⟩ := hP.mform HOK.out
  have HB2 := Lib.hid (bthen HB1.out hb2)
  have HBO := Lib.hid hbo
  have HBS : Hid (bs.length ≤ 40000 ∧ ofM bs = if mayM m then some m else none) := Lib.hid (by
   rcases hcs with ⟨h1, h2, _⟩ | ⟨h1, h2, _⟩
   ·rw [h2, h1]; exact ⟨bsM_len HOK.out h1, ofM_packM HOK.out h1⟩
   ·rw [h2, h1]; exact ⟨by simp, ofM_nil⟩)
  have HCS := Lib.hid hcs
  obtain ⟨aob, capb, rfl⟩ := rd_slice (Rd.of_own hbo)
  clear hP hcs hbo hb2
  go_wp2_with fail
  refine (ofM_own bs _ w2 (Rd.of_own HBO.out) (by have := HBS.out.1; omega)).mono ?_
  rintro e w3 ⟨hb3, t1, t2, rfl, ho1, ho2⟩
  have HDM : Hid ((oM (ofM bs)).item.data.length = 256) := Lib.hid (oM_data bs)
  obtain ⟨DL, hDL, hdl, hdo⟩ : ∃ L, msL (oM (ofM bs)) t1 t2 = L ∧ L.length = 290 ∧ ∀ u ∈ L, u.oneCell' = true := ⟨_, rfl, msL_len HDM.out, msL_one (oneOwn ho1) (oneOwn ho2)⟩
  rw [hDL]
  have hst := msNew w3 hdl hdo
  have HDL := Lib.hid hDL
  have HB3 := Lib.hid hb3
  have HT := Lib.hid (And.intro (Rd.of_own ho1) (Rd.of_own ho2))
  have HID : Hid ((Try.prog.info? 81).map (·.size) = some DL.length) := Lib.hid (infoM hdl)
  clear hDL hdo ho1 ho2 hb3
  obtain ⟨code, hcode⟩ : ∃ c, eA (ofM bs) = c := ⟨_, rfl⟩
  rw [hcode]
  have HCO := Lib.hid hcode
  clear hcode
  go_upto_region 5 with fail
  clear hst hdl
  have HB4 : Hid (Below w3.heap.size w3 (w3.alloc (.cells DL.toArray 81))) := Lib.hid (balloc (Below.refl _ _) _)
  have HRD : Hid (∀ X, Below (w3.alloc (.cells DL.toArray 81)).heap.size (w3.alloc (.cells DL.toArray 81)) X → X.rangeAt w3.heap.size 0 DL) := Lib.hid (fun X hX => box_later hX)
  generalize w3.alloc (.cells DL.toArray 81) = wr at *
  have HWR : Hid (Below W0.heap.size W0 wr) := Lib.hid (bthen HB2.out (bthen HB3.out HB4.out))
  have HBR : Hid (∀ X, Below wr.heap.size wr X → Rd X 1 (.slice aob bs.length capb) bs.length (bV bs)) := Lib.hid (fun X hX => (Rd.of_own HBO.out).below (bthen (bthen HB3.out HB4.out) hX))
  have HSS : Hid (∀ X, Below wr.heap.size wr X → (X.rangeAt w.heap.size 0 AL ∧ X.cell? ⟨w.heap.size, 0, none⟩ = some (.int .i64 m.k)) ∧ Below wr.heap.size wr X) := Lib.hid (fun X hX => ⟨⟨HRA.out X (bthen HWR.out hX), HK0.out X (bthen HWR.out hX)⟩, hX⟩)
  refine wp_region_held_drew (S := fun X => (X.rangeAt w.heap.size 0 AL ∧ X.cell? ⟨w.heap.size, 0, none⟩ = some (.int .i64 m.k)) ∧ Below wr.heap.size wr X) (by kernel_rfl) (HSS.out _ (Below.refl _ _).drew) (fun hHeld => ?_)
  refine wpAnyH_take (i := 0) (v := _) rfl (by kernel_rfl) (by kernel_rfl) (by kernel_rfl) (fun _ _ _ h => h) (yieldsIf_load_mid (by rfl) 81 _ rfl (w.heap.size) (0) rfl (AL) _ (fun w hw => hw.1.1) (Try.underlying81) rfl (HI.out)) (by assumption) ?_
  simp only [List.getElem_toArray, List.getElem_cons_zero, List.getElem_cons_succ, Act.put, List.setIfInBounds_toArray, List.set_cons_zero, List.set_cons_succ]
  refine wpAnyH_take (i := 2) (v := _) rfl (by kernel_rfl) (by kernel_rfl) (by kernel_rfl) (fun _ _ _ h => h) (yieldsIf_load_mid (by rfl) 81 _ rfl (w.heap.size) (0) rfl (AL) _ (fun w hw => hw.1.1) (Try.underlying81) rfl (HI.out)) (by assumption) ?_
  simp only [List.getElem_toArray, List.getElem_cons_zero, List.getElem_cons_succ, Act.put, List.setIfInBounds_toArray, List.set_cons_zero, List.set_cons_succ]
  refine wpAnyH_ready (rs := [1]) (by kernel_rfl) (by simp) ?_
  refine AllReadyH.cons rfl (fun K hK => ?_) AllReadyH.nil
  simp only [List.getElem_toArray, List.getElem_cons_zero, List.getElem_cons_succ]
  go_simp
  refine (CMY.out _ (bthen HBB.out (bthen HWR.out hHeld.2))).mono ?_
  rintro e x1 ⟨rfl, hx1⟩
  dsimp only
  refine hK.out _ _ ?_ (fun hHeld => ?_)
  ·exact HSS.out _ (bthen hHeld.2 hx1)
  clear hK K
  try simp only [Act.put, List.setIfInBounds_toArray, List.set_cons_zero, List.set_cons_succ]
  refine wpAnyH_ready (rs := [3]) (by kernel_rfl) (by simp) ?_
  refine AllReadyH.cons rfl (fun K hK => ?_) AllReadyH.nil
  simp only [List.getElem_toArray, List.getElem_cons_zero, List.getElem_cons_succ]
  go_simp
  refine (CRM.out _ (bthen HBB.out (bthen HWR.out hHeld.2))).mono ?_
  rintro e x2 ⟨rfl, hx2⟩
  dsimp only
  refine hK.out _ _ ?_ (fun hHeld => ?_)
  ·exact HSS.out _ (bthen hHeld.2 hx2)
  clear hK K
  try simp only [Act.put, List.setIfInBounds_toArray, List.set_cons_zero, List.set_cons_succ]
  refine wpAnyH_take (i := 4) (v := .bool false) rfl (by kernel_rfl) (by kernel_rfl) (by kernel_rfl) (fun _ _ _ h => h) (Or.inl ⟨by rfl, ?_⟩) (by assumption) ?_
  ·(intro w hSw; simp only [List.getElem_toArray, List.getElem_cons_zero, List.getElem_cons_succ]; (go_simp; first | done | simp))
  simp only [List.getElem_toArray, List.getElem_cons_zero, List.getElem_cons_succ, Act.put, List.setIfInBounds_toArray, List.set_cons_zero, List.set_cons_succ]
  refine wpAnyH_take (i := 5) (v := ?_) rfl (by kernel_rfl) (by kernel_rfl) (by kernel_rfl) (fun _ _ _ h => h) (Or.inl ⟨by rfl, ?_⟩) (by assumption) ?_
  rotate_left
  ·(intro w hSw; (try dsimp only at hSw); simp only [List.getElem_toArray, List.getElem_cons_zero, List.getElem_cons_succ]; go_simp; first | done | with_reducible rfl)
  simp only [List.getElem_toArray, List.getElem_cons_zero, List.getElem_cons_succ, Act.put, List.setIfInBounds_toArray, List.set_cons_zero, List.set_cons_succ]
  refine wpAnyH_take (i := 6) (v := ?_) rfl (by kernel_rfl) (by kernel_rfl) (by kernel_rfl) (fun _ _ _ h => h) (Or.inl ⟨by rfl, ?_⟩) (by assumption) ?_
  rotate_left
  ·(intro w hSw; (try dsimp only at hSw); simp only [List.getElem_toArray, List.getElem_cons_zero, List.getElem_cons_succ]; go_simp; first | done | with_reducible rfl)
  simp only [List.getElem_toArray, List.getElem_cons_zero, List.getElem_cons_succ, Act.put, List.setIfInBounds_toArray, List.set_cons_zero, List.set_cons_succ]
  refine wpAnyH_take (i := 7) (v := ?_) rfl (by kernel_rfl) (by kernel_rfl) (by kernel_rfl) (fun _ _ _ h => h) (Or.inl ⟨by rfl, ?_⟩) (by assumption) ?_
  rotate_left
  ·(intro w hSw; (try dsimp only at hSw); simp only [List.getElem_toArray, List.getElem_cons_zero, List.getElem_cons_succ]; go_simp; first | done | with_reducible rfl)
  simp only [List.getElem_toArray, List.getElem_cons_zero, List.getElem_cons_succ, Act.put, List.setIfInBounds_toArray, List.set_cons_zero, List.set_cons_succ]
  refine wpAnyH_take (i := 9) (v := ?_) rfl (by kernel_rfl) (by kernel_rfl) (by kernel_rfl) (fun _ _ _ h => h) (Or.inl ⟨by rfl, ?_⟩) (by assumption) ?_
  rotate_left
  ·(intro w hSw; (try dsimp only at hSw); simp only [List.getElem_toArray, List.getElem_cons_zero, List.getElem_cons_succ]; go_simp; first | done | with_reducible rfl)
  simp only [List.getElem_toArray, List.getElem_cons_zero, List.getElem_cons_succ, Act.put, List.setIfInBounds_toArray, List.set_cons_zero, List.set_cons_succ]
  refine wpAnyH_take (i := 10) (v := ?_) rfl (by kernel_rfl) (by kernel_rfl) (by kernel_rfl) (fun _ _ _ h => h) (Or.inl ⟨by rfl, ?_⟩) (by assumption) ?_
  rotate_left
  ·(intro w hSw; (try dsimp only at hSw); simp only [List.getElem_toArray, List.getElem_cons_zero, List.getElem_cons_succ]; go_simp; first | done | with_reducible rfl)
  simp only [List.getElem_toArray, List.getElem_cons_zero, List.getElem_cons_succ, Act.put, List.setIfInBounds_toArray, List.set_cons_zero, List.set_cons_succ]
  refine wpAnyH_ready (rs := [8]) (by kernel_rfl) (by simp) ?_
  refine AllReadyH.cons rfl (fun K hK => ?_) AllReadyH.nil
  simp only [List.getElem_toArray, List.getElem_cons_zero, List.getElem_cons_succ]
  go_simp
  refine (namesM_any m.k _).mono ?_
  rintro e x3 ⟨rfl, hx3⟩
  dsimp only
  refine hK.out _ _ ?_ (fun hHeld => ?_)
  ·exact HSS.out _ (bthen hHeld.2 hx3)
  clear hK K
  try simp only [Act.put, List.setIfInBounds_toArray, List.set_cons_zero, List.set_cons_succ]
  refine wpAnyH_ready (rs := [11]) (by kernel_rfl) (by simp) ?_
  refine AllReadyH.cons rfl (fun K hK => ?_) AllReadyH.nil
  simp only [List.getElem_toArray, List.getElem_cons_zero, List.getElem_cons_succ]
  go_simp
  refine (rnamesM_any m.k _).mono ?_
  rintro e x4 ⟨rfl, rfl⟩
  dsimp only
  refine hK.out _ _ ?_ (fun hHeld => ?_)
  ·exact hHeld
  clear hK K
  try simp only [Act.put, List.setIfInBounds_toArray, List.set_cons_zero, List.set_cons_succ]
  refine wpAnyH_take (i := 12) (v := .bool false) rfl (by kernel_rfl) (by kernel_rfl) (by kernel_rfl) (fun _ _ _ h => h) (Or.inl ⟨by rfl, ?_⟩) (by assumption) ?_
  ·(intro w hSw; simp only [List.getElem_toArray, List.getElem_cons_zero, List.getElem_cons_succ]; (go_simp; first | done | simp))
  simp only [List.getElem_toArray, List.getElem_cons_zero, List.getElem_cons_succ, Act.put, List.setIfInBounds_toArray, List.set_cons_zero, List.set_cons_succ]
  refine wpAnyH_take (i := 13) (v := ?_) rfl (by kernel_rfl) (by kernel_rfl) (by kernel_rfl) (fun _ _ _ h => h) (Or.inl ⟨by rfl, ?_⟩) (by assumption) ?_
  rotate_left
  ·(intro w hSw; (try dsimp only at hSw); simp only [List.getElem_toArray, List.getElem_cons_zero, List.getElem_cons_succ]; go_simp; first | done | with_reducible rfl)
  simp only [List.getElem_toArray, List.getElem_cons_zero, List.getElem_cons_succ, Act.put, List.setIfInBounds_toArray, List.set_cons_zero, List.set_cons_succ]
  refine wpAnyH_take (i := 14) (v := ?_) rfl (by kernel_rfl) (by kernel_rfl) (by kernel_rfl) (fun _ _ _ h => h) (Or.inl ⟨by rfl, ?_⟩) (by assumption) ?_
  rotate_left
  ·(intro w hSw; (try dsimp only at hSw); simp only [List.getElem_toArray, List.getElem_cons_zero, List.getElem_cons_succ]; go_simp; first | done | with_reducible rfl)
  simp only [List.getElem_toArray, List.getElem_cons_zero, List.getElem_cons_succ, Act.put, List.setIfInBounds_toArray, List.set_cons_zero, List.set_cons_succ]
  refine wpAnyH_done (by kernel_rfl) ?_ _
  have HX3 := Lib.hid hHeld
  clear hHeld hx1 hx2 hx3
  go_wp2_with (refine wpList_load_mid rfl 81 _ rfl w.heap.size 0 rfl AL _ HX3.out.1.1 Try.underlying81 rfl HI.out ?_)
  refine (CRM.out _ (bthen HBB.out (bthen HWR.out HX3.out.2))).mono ?_
  rintro e x5 ⟨rfl, hx5⟩
  have HX5 := Lib.hid (HSS.out _ (bthen HX3.out.2 hx5))
  have HXW := Lib.hid (bthen HBB.out (bthen HWR.out HX5.out.2))
  clear hx5
  obtain ⟨y, hy⟩ : ∃ y, mayM m = y := ⟨_, rfl⟩
  rw [hy] at HBS HCS ⊢
  have HY := Lib.hid hy
  clear hy
  cases y with
  | false =>
   rcases HCS.out with ⟨h, _⟩ | ⟨_, rfl, rfl⟩
   ·cases h
   have hc4 : code = 4 := by rw [← HCO.out, HBS.out.2]; rfl
   subst hc4
   go_wp2_with (first
    | (go_at_call 54; refine (num19_any _ _).mono ?_; rintro e w' ⟨rfl, rfl⟩))
   refine (CK.out _).mono ?_
   rintro e x6 ⟨rfl, hx6⟩
   have HX6 := Lib.hid (bthen HXW.out hx6)
   clear hx6
   go_wp2_with fail
   go_ret
   exact ⟨rfl, HX6.out⟩
  | true =>
   rcases HCS.out with ⟨_, rfl, rfl⟩ | ⟨h, _⟩
   rotate_left
   ·cases h
   have hc0 : code = 0 := by rw [← HCO.out, HBS.out.2]; rfl
   subst hc0
   have HM : Hid (oM (ofM (bsM m)) = m) := Lib.hid (by rw [HBS.out.2]; rfl)
   rw [HM.out] at HDL HT
   have CRP : Hid (∀ X, Below w.heap.size w X → Calls Try.prog 79 #[.agg AL.toArray] X fun e w' => ∃ v, e = .returned v ∧ w'.ownsRow X.heap.size 5 1 v (bsM m).length (bV (bsM m)) ∧ Below X.heap.size X w') := Lib.hid (fun X hX => by
    rw [← HAL.out]
    exact rpackM_any m HOK.out HY.out s1 s2 X (HD1.out.below hX) (HD2.out.below hX))
   have CSM : Hid (∀ X, Below wr.heap.size wr X → Calls Try.prog 51 #[.agg DL.toArray, .agg AL.toArray] X fun e w' => e = .returned (.bool true) ∧ Below X.heap.size X w') := Lib.hid (fun X hX => by
    have h := rsameM_any m m t1 t2 s1 s2 X HOK.out.item.data HOK.out.item.data (HT.out.1.below (bthen HB4.out hX)) (HT.out.2.below (bthen HB4.out hX)) (HD1.out.below (bthen HBB.out (bthen HWR.out hX))) (HD2.out.below (bthen HBB.out (bthen HWR.out hX)))
    rw [HDL.out, HAL.out, msEq_yes rfl] at h
    exact h)
   have HST : Hid (∀ X, Below wr.heap.size wr X → (X.rangeAt w.heap.size 0 AL ∧ X.rangeAt w3.heap.size 0 DL) ∧ Below wr.heap.size wr X) := Lib.hid (fun X hX => ⟨⟨HRA.out X (bthen HWR.out hX), HRD.out X hX⟩, hX⟩)
   generalize bsM m = bs at *
   go_upto_region 9 with fail
   refine wp_region_held_drew (S := fun X => (X.rangeAt w.heap.size 0 AL ∧ X.rangeAt w3.heap.size 0 DL) ∧ Below wr.heap.size wr X) (by kernel_rfl) (HST.out _ HX5.out.2.drew) (fun hHeld => ?_)
   refine wpAnyH_take (i := 0) (v := ?_) rfl (by kernel_rfl) (by kernel_rfl) (by kernel_rfl) (fun _ _ _ h => h) (Or.inl ⟨by rfl, ?_⟩) (by assumption) ?_
   rotate_left
   ·(intro w hSw; (try dsimp only at hSw); simp only [List.getElem_toArray, List.getElem_cons_zero, List.getElem_cons_succ]; go_simp; first | done | with_reducible rfl)
   simp only [List.getElem_toArray, List.getElem_cons_zero, List.getElem_cons_succ, Act.put, List.setIfInBounds_toArray, List.set_cons_zero, List.set_cons_succ]
   refine wpAnyH_take (i := 1) (v := .string (strB bs)) rfl (by kernel_rfl) (by kernel_rfl) (by kernel_rfl) (fun _ _ _ h => h) (Or.inl ⟨by rfl, ?_⟩) (by assumption) ?_
   ·(intro w hSw; simp only [List.getElem_toArray, List.getElem_cons_zero, List.getElem_cons_succ]; (go_simp; exact run_textM w _ _ bs (HBR.out _ hSw.2)))
   simp only [List.getElem_toArray, List.getElem_cons_zero, List.getElem_cons_succ, Act.put, List.setIfInBounds_toArray, List.set_cons_zero, List.set_cons_succ]
   refine wpAnyH_take (i := 2) (v := _) rfl (by kernel_rfl) (by kernel_rfl) (by kernel_rfl) (fun _ _ _ h => h) (yieldsIf_load_mid (by rfl) 81 _ rfl (w.heap.size) (0) rfl (AL) _ (fun w hw => hw.1.1) (Try.underlying81) rfl (HI.out)) (by assumption) ?_
   simp only [List.getElem_toArray, List.getElem_cons_zero, List.getElem_cons_succ, Act.put, List.setIfInBounds_toArray, List.set_cons_zero, List.set_cons_succ]
   refine wpAnyH_ready (rs := [3]) (by kernel_rfl) (by simp) ?_
   refine AllReadyH.cons rfl (fun K hK => ?_) AllReadyH.nil
   simp only [List.getElem_toArray, List.getElem_cons_zero, List.getElem_cons_succ]
   go_simp
   refine (CRP.out _ (bthen HBB.out (bthen HWR.out hHeld.2))).mono ?_
   rintro e x6 ⟨v6, rfl, ho6, hx6⟩
   dsimp only
   refine hK.out _ _ ?_ (fun hHeld => ?_)
   ·exact HST.out _ (bthen hHeld.2 hx6)
   clear hK K
   try simp only [Act.put, List.setIfInBounds_toArray, List.set_cons_zero, List.set_cons_succ]
   have htx6 := run_text x6 _ _ bs (Rd.of_own ho6)
   clear ho6 hx6
   refine wpAnyH_ready (rs := [4]) (by kernel_rfl) (by simp) ?_
   refine AllReadyH.cons rfl (fun K hK => ?_) AllReadyH.nil
   simp only [List.getElem_toArray, List.getElem_cons_zero, List.getElem_cons_succ]
   go_simp
   refine hK.out _ _ ?_ (fun hHeld => ?_)
   ·exact hHeld
   clear hK K
   try simp only [Act.put, List.setIfInBounds_toArray, List.set_cons_zero, List.set_cons_succ]
   clear htx6
   refine wpAnyH_take (i := 5) (v := .bool true) rfl (by kernel_rfl) (by kernel_rfl) (by kernel_rfl) (fun _ _ _ h => h) (Or.inl ⟨by rfl, ?_⟩) (by assumption) ?_
   ·(intro w hSw; simp only [List.getElem_toArray, List.getElem_cons_zero, List.getElem_cons_succ]; (go_simp; first | done | simp))
   simp only [List.getElem_toArray, List.getElem_cons_zero, List.getElem_cons_succ, Act.put, List.setIfInBounds_toArray, List.set_cons_zero, List.set_cons_succ]
   refine wpAnyH_take (i := 6) (v := ?_) rfl (by kernel_rfl) (by kernel_rfl) (by kernel_rfl) (fun _ _ _ h => h) (Or.inl ⟨by rfl, ?_⟩) (by assumption) ?_
   rotate_left
   ·(intro w hSw; (try dsimp only at hSw); simp only [List.getElem_toArray, List.getElem_cons_zero, List.getElem_cons_succ]; go_simp; first | done | with_reducible rfl)
   simp only [List.getElem_toArray, List.getElem_cons_zero, List.getElem_cons_succ, Act.put, List.setIfInBounds_toArray, List.set_cons_zero, List.set_cons_succ]
   refine wpAnyH_take (i := 7) (v := ?_) rfl (by kernel_rfl) (by kernel_rfl) (by kernel_rfl) (fun _ _ _ h => h) (Or.inl ⟨by rfl, ?_⟩) (by assumption) ?_
   rotate_left
   ·(intro w hSw; (try dsimp only at hSw); simp only [List.getElem_toArray, List.getElem_cons_zero, List.getElem_cons_succ]; go_simp; first | done | with_reducible rfl)
   simp only [List.getElem_toArray, List.getElem_cons_zero, List.getElem_cons_succ, Act.put, List.setIfInBounds_toArray, List.set_cons_zero, List.set_cons_succ]
   refine wpAnyH_take (i := 9) (v := ?_) rfl (by kernel_rfl) (by kernel_rfl) (by kernel_rfl) (fun _ _ _ h => h) (Or.inl ⟨by rfl, ?_⟩) (by assumption) ?_
   rotate_left
   ·(intro w hSw; (try dsimp only at hSw); simp only [List.getElem_toArray, List.getElem_cons_zero, List.getElem_cons_succ]; go_simp; first | done | with_reducible rfl)
   simp only [List.getElem_toArray, List.getElem_cons_zero, List.getElem_cons_succ, Act.put, List.setIfInBounds_toArray, List.set_cons_zero, List.set_cons_succ]
   refine wpAnyH_ready (rs := [8]) (by kernel_rfl) (by simp) ?_
   refine AllReadyH.cons rfl (fun K hK => ?_) AllReadyH.nil
   simp only [List.getElem_toArray, List.getElem_cons_zero, List.getElem_cons_succ]
   go_simp
   refine (num19_any 0 _).mono ?_
   rintro e y1 ⟨rfl, rfl⟩
   dsimp only
   refine hK.out _ _ ?_ (fun hHeld => ?_)
   ·exact hHeld
   clear hK K
   try simp only [Act.put, List.setIfInBounds_toArray, List.set_cons_zero, List.set_cons_succ]
   refine wpAnyH_ready (rs := [10]) (by kernel_rfl) (by simp) ?_
   refine AllReadyH.cons rfl (fun K hK => ?_) AllReadyH.nil
   simp only [List.getElem_toArray, List.getElem_cons_zero, List.getElem_cons_succ]
   go_simp
   refine (num19_any 0 _).mono ?_
   rintro e y2 ⟨rfl, rfl⟩
   dsimp only
   refine hK.out _ _ ?_ (fun hHeld => ?_)
   ·exact hHeld
   clear hK K
   try simp only [Act.put, List.setIfInBounds_toArray, List.set_cons_zero, List.set_cons_succ]
   refine wpAnyH_take (i := 11) (v := ?_) rfl (by kernel_rfl) (by kernel_rfl) (by kernel_rfl) (fun _ _ _ h => h) (Or.inl ⟨by rfl, ?_⟩) (by assumption) ?_
   rotate_left
   ·(intro w hSw; (try dsimp only at hSw); simp only [List.getElem_toArray, List.getElem_cons_zero, List.getElem_cons_succ]; go_simp; first | done | with_reducible rfl)
   simp only [List.getElem_toArray, List.getElem_cons_zero, List.getElem_cons_succ, Act.put, List.setIfInBounds_toArray, List.set_cons_zero, List.set_cons_succ]
   refine wpAnyH_take (i := 12) (v := ?_) rfl (by kernel_rfl) (by kernel_rfl) (by kernel_rfl) (fun _ _ _ h => h) (Or.inl ⟨by rfl, ?_⟩) (by assumption) ?_
   rotate_left
   ·(intro w hSw; (try dsimp only at hSw); simp only [List.getElem_toArray, List.getElem_cons_zero, List.getElem_cons_succ]; go_simp; first | done | with_reducible rfl)
   simp only [List.getElem_toArray, List.getElem_cons_zero, List.getElem_cons_succ, Act.put, List.setIfInBounds_toArray, List.set_cons_zero, List.set_cons_succ]
   refine wpAnyH_take (i := 13) (v := ?_) rfl (by kernel_rfl) (by kernel_rfl) (by kernel_rfl) (fun _ _ _ h => h) (Or.inl ⟨by rfl, ?_⟩) (by assumption) ?_
   rotate_left
   ·(intro w hSw; (try dsimp only at hSw); simp only [List.getElem_toArray, List.getElem_cons_zero, List.getElem_cons_succ]; go_simp; first | done | with_reducible rfl)
   simp only [List.getElem_toArray, List.getElem_cons_zero, List.getElem_cons_succ, Act.put, List.setIfInBounds_toArray, List.set_cons_zero, List.set_cons_succ]
   refine wpAnyH_take (i := 14) (v := ?_) rfl (by kernel_rfl) (by kernel_rfl) (by kernel_rfl) (fun _ _ _ h => h) (Or.inl ⟨by rfl, ?_⟩) (by assumption) ?_
   rotate_left
   ·(intro w hSw; (try dsimp only at hSw); simp only [List.getElem_toArray, List.getElem_cons_zero, List.getElem_cons_succ]; go_simp; first | done | with_reducible rfl)
   simp only [List.getElem_toArray, List.getElem_cons_zero, List.getElem_cons_succ, Act.put, List.setIfInBounds_toArray, List.set_cons_zero, List.set_cons_succ]
   refine wpAnyH_take (i := 15) (v := _) rfl (by kernel_rfl) (by kernel_rfl) (by kernel_rfl) (fun _ _ _ h => h) (yieldsIf_load_mid (by rfl) 81 _ rfl (w3.heap.size) (0) rfl (DL) _ (fun w hw => hw.1.2) (Try.underlying81) rfl (HID.out)) (by assumption) ?_
   simp only [List.getElem_toArray, List.getElem_cons_zero, List.getElem_cons_succ, Act.put, List.setIfInBounds_toArray, List.set_cons_zero, List.set_cons_succ]
   refine wpAnyH_take (i := 16) (v := _) rfl (by kernel_rfl) (by kernel_rfl) (by kernel_rfl) (fun _ _ _ h => h) (yieldsIf_load_mid (by rfl) 81 _ rfl (w.heap.size) (0) rfl (AL) _ (fun w hw => hw.1.1) (Try.underlying81) rfl (HI.out)) (by assumption) ?_
   simp only [List.getElem_toArray, List.getElem_cons_zero, List.getElem_cons_succ, Act.put, List.setIfInBounds_toArray, List.set_cons_zero, List.set_cons_succ]
   refine wpAnyH_ready (rs := [17]) (by kernel_rfl) (by simp) ?_
   refine AllReadyH.cons rfl (fun K hK => ?_) AllReadyH.nil
   simp only [List.getElem_toArray, List.getElem_cons_zero, List.getElem_cons_succ]
   go_simp
   refine (CSM.out _ hHeld.2).mono ?_
   rintro e x7 ⟨rfl, hx7⟩
   dsimp only
   refine hK.out _ _ ?_ (fun hHeld => ?_)
   ·exact HST.out _ (bthen hHeld.2 hx7)
   clear hK K
   try simp only [Act.put, List.setIfInBounds_toArray, List.set_cons_zero, List.set_cons_succ]
   refine wpAnyH_take (i := 18) (v := ?_) rfl (by kernel_rfl) (by kernel_rfl) (by kernel_rfl) (fun _ _ _ h => h) (Or.inl ⟨by rfl, ?_⟩) (by assumption) ?_
   rotate_left
   ·(intro w hSw; (try dsimp only at hSw); simp only [List.getElem_toArray, List.getElem_cons_zero, List.getElem_cons_succ]; go_simp; first | done | with_reducible rfl)
   simp only [List.getElem_toArray, List.getElem_cons_zero, List.getElem_cons_succ, Act.put, List.setIfInBounds_toArray, List.set_cons_zero, List.set_cons_succ]
   refine wpAnyH_take (i := 19) (v := ?_) rfl (by kernel_rfl) (by kernel_rfl) (by kernel_rfl) (fun _ _ _ h => h) (Or.inl ⟨by rfl, ?_⟩) (by assumption) ?_
   rotate_left
   ·(intro w hSw; (try dsimp only at hSw); simp only [List.getElem_toArray, List.getElem_cons_zero, List.getElem_cons_succ]; go_simp; first | done | with_reducible rfl)
   simp only [List.getElem_toArray, List.getElem_cons_zero, List.getElem_cons_succ, Act.put, List.setIfInBounds_toArray, List.set_cons_zero, List.set_cons_succ]
   refine wpAnyH_ready (rs := [20]) (by kernel_rfl) (by simp) ?_
   refine AllReadyH.cons rfl (fun K hK => ?_) AllReadyH.nil
   simp only [List.getElem_toArray, List.getElem_cons_zero, List.getElem_cons_succ]
   go_simp
   refine (CK.out _).mono ?_
   rintro e x8 ⟨rfl, hx8⟩
   dsimp only
   refine hK.out _ _ ?_ (fun hHeld => ?_)
   ·exact HST.out _ (bthen hHeld.2 hx8)
   clear hK K
   try simp only [Act.put, List.setIfInBounds_toArray, List.set_cons_zero, List.set_cons_succ]
   refine wpAnyH_take (i := 21) (v := ?_) rfl (by kernel_rfl) (by kernel_rfl) (by kernel_rfl) (fun _ _ _ h => h) (Or.inl ⟨by rfl, ?_⟩) (by assumption) ?_
   rotate_left
   ·(intro w hSw; (try dsimp only at hSw); simp only [List.getElem_toArray, List.getElem_cons_zero, List.getElem_cons_succ]; go_simp; first | done | with_reducible rfl)
   simp only [List.getElem_toArray, List.getElem_cons_zero, List.getElem_cons_succ, Act.put, List.setIfInBounds_toArray, List.set_cons_zero, List.set_cons_succ]
   refine wpAnyH_take (i := 22) (v := ?_) rfl (by kernel_rfl) (by kernel_rfl) (by kernel_rfl) (fun _ _ _ h => h) (Or.inl ⟨by rfl, ?_⟩) (by assumption) ?_
   rotate_left
   ·(intro w hSw; (try dsimp only at hSw); simp only [List.getElem_toArray, List.getElem_cons_zero, List.getElem_cons_succ]; go_simp; first | done | with_reducible rfl)
   simp only [List.getElem_toArray, List.getElem_cons_zero, List.getElem_cons_succ, Act.put, List.setIfInBounds_toArray, List.set_cons_zero, List.set_cons_succ]
   refine wpAnyH_done (by kernel_rfl) ?_ _
   go_wp2_with fail
   go_ret
   exact ⟨rfl, bthen HBB.out (bthen HWR.out hHeld.2)⟩
end Go.Proofs.Ytgkelbdgdhkeoaa
