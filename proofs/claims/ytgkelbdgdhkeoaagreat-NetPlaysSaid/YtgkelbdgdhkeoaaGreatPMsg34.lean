/- message.Of, walked. -/
import Derived.Deep.LoopGhost
import Derived.Lib.OthersKept
import Derived.Test.YtgkelbdgdhkeoaaGreatPMsg33
import Derived.Test.YtgkelbdgdhkeoaaGreatPMsg29
namespace Go.Proofs.YtgkelbdgdhkeoaaGreat
open Go.RowKit
set_option linter.unusedVariables false
set_option linter.unusedSimpArgs false
open Wire Cmd
set_option maxRecDepth 100000 in
set_option maxHeartbeats 12800000 in
theorem ofM_own (bs : List UInt8) (v : Value) (w : World) (hd : Rd w 1 v bs.length (bV bs)) (hm : bs.length ≤ 1000000) :
  Calls Tryz.prog 31 #[v] w (MOfP w (ofM bs)) := by
 have HD := Lib.hid hd
 obtain ⟨ao, cap, rfl, _, _, ⟨_, hc1, hc2⟩, hcell⟩ := hd
 unfold maxLen at hc2
 have HCE := Lib.hid hcell
 obtain ⟨n, hn⟩ : ∃ n, bs.length = n := ⟨_, rfl⟩
 have HN := Lib.hid hn
 rw [hn] at HD hm hc1 ⊢
 obtain ⟨W0, hW0⟩ : ∃ W, w.alloc (.cells Tryz.zeroCells80 80) = W := ⟨_, rfl⟩
 have HB0 : Hid (Below w.heap.size w W0) := Lib.hid (by rw [← hW0]; exact balloc (Below.refl _ _) _)
 have HX0 : Hid (W0.heap[w.heap.size]? = some (.cells zM.toArray 80 (0, 0))) := Lib.hid (by rw [← hW0, ← zM_eq]; exact heap_alloc_new w _)
 have CU : Calls Tryz.prog 36 #[.string ⟨#[49, 56]⟩, .slice ao n cap] W0 (UnpackP W0 true (unpack [49, 56] bs)) := by
  have h := unpack_any (strB [49, 56]) (HD.out.below HB0.out) (by omega) (by rw [str_size]; decide)
  rw [chs_str] at h
  exact h
 have HCU := Lib.hid (CU.mono fun _ _ h => u_of h)
 clear CU hn hcell
 go_enter Tryz.func31, Tryz.ntmps31
 go_upto_region 1 with fail
 clear hW0
 go_wp2_with fail
 refine HCU.out.mono ?_
 rintro e w1 ⟨v1, q, code, rfl, hb1, hP⟩
 have HB1 := Lib.hid (bthen HB0.out hb1)
 have HX1 : Hid (w1.heap[w.heap.size]? = some (.cells zM.toArray 80 (0, 0))) := Lib.hid ((hb1.block _ (Array.getElem?_eq_some_iff.1 HX0.out).1).trans HX0.out)
 clear hb1 HCU
 rcases hP with ⟨hu, rfl⟩ | ⟨rfl, l, hu, hrow⟩
 ·have HE : Hid (ofM bs = none) := Lib.hid (by rw [ofM_P]; unfold ofP; rw [hu]; rfl)
  clear hu
  obtain ⟨WB, hWB⟩ : ∃ W, w1 = W := ⟨_, rfl⟩
  subst hWB
  have HBB := HB1
  have HXB := HX1
  obtain ⟨WB, hWB⟩ : ∃ W, W = w1 := ⟨_, rfl⟩
  subst hWB
  have HTH : Hid (WB.there w.heap.size 0 290) := Lib.hid (there_of HXB.out (by rw [List.size_toArray]; exact zM_len))
  have HFIN : Hid (Below w.heap.size w (WB.setCells w.heap.size 0 zM)) := Lib.hid (belowSetC (Nat.le_refl _) _ _ _ HBB.out)
  go_wp2_with ((try rw [zM_eq]); refine wpList_store_mid rfl 80 _ _ rfl w.heap.size 0 zM.toArray rfl rfl HTH.out infoZM oneZM ?_)
  exact bodyPost_ret (v := .tuple #[.agg zM.toArray, .int .i64 4]) (resMt rfl _ _ _ _ rfl rfl zM_len HTH.out) rfl (MOfP.none_of HE.out rfl HFIN.out)
 ·obtain ⟨x0, y0, rfl, hx0, hy0⟩ := unpack_two hu
  have HOI := Lib.hid (OfI.beg hu)
  have HQ : Hid (q ≤ bs.length) := Lib.hid (OfI.beg hu).le
  obtain ⟨a0, a1, hown, c0, c1⟩ := row2 hrow
  obtain rfl := c0.is_num
  obtain rfl := c1.is_num
  have e1 : (num x0).n = x0 := rfl
  have e2 : (num y0).n = y0 := rfl
  rw [e1, e2] at HOI
  obtain ⟨g, capg, rfl, hgl, _, hnc, hcm, hcg⟩ := own_cells hown (by omega)
  have d0 : w1.drew.cell? ⟨g, 0, none⟩ = some (.iface 41 (.int .u64 (x0 : Int))) := hcg 0 _ rfl
  have d1 : w1.drew.cell? ⟨g, 1, none⟩ = some (.iface 41 (.int .u64 (y0 : Int))) := hcg 1 _ rfl
  have hwr : IntKind.i64.wrap (x0 : Int) = (x0 : Int) := IntWalk.i64_in _ (by omega)
  obtain ⟨P, hP⟩ : ∃ P, w1.drew.heap.size = P := ⟨_, rfl⟩
  have hst : (storeCells ⟨P, 0, none⟩ ((Tryz.zeroCells80.toList.set 0 (.int .i64 (x0 : Int))).set 1 (.int .u64 (y0 : Int)))).run Tryz.prog ((w1.alloc (.cells Tryz.zeroCells80 80)).drew) = .ok () ((w1.alloc (.cells (msZ (x0 : Int) y0).toArray 80)).drew) := by
   rw [← hP]
   exact newM_store w1.drew (x0 : Int) y0
  have HPZ : Hid (w.heap.size < P ∧ w1.heap.size = P) := Lib.hid ⟨by rw [← hP]; exact (Array.getElem?_eq_some_iff.1 HX1.out).1, by rw [← hP]; rfl⟩
  have HSA : Hid (∀ o, ((w1.drew.alloc o).cell? ⟨g, 0, none⟩ = some (.iface 41 (.int .u64 (x0 : Int)))) ∧ ((w1.drew.alloc o).cell? ⟨g, 1, none⟩ = some (.iface 41 (.int .u64 (y0 : Int))))) := Lib.hid (fun o => ⟨((balloc (Below.refl _ w1.drew) o).cell (p := ⟨g, 0, none⟩) hgl).trans d0, ((balloc (Below.refl _ w1.drew) o).cell (p := ⟨g, 1, none⟩) hgl).trans d1⟩)
  clear hu hrow hown hcg c0 c1 e1 e2
  go_upto_region 4 with fail
  go_cut [7] (fun p wx => p = .pointer (some ⟨P, 0, none⟩) ∧ wx = (w1.alloc (.cells (msZ (x0 : Int) y0).toArray 80)).drew)
  case first =>
   refine wp_region_held_drew (S := fun X => X.cell? ⟨g, 0, none⟩ = some (.iface 41 (.int .u64 (x0 : Int))) ∧ X.cell? ⟨g, 1, none⟩ = some (.iface 41 (.int .u64 (y0 : Int)))) (by kernel_rfl) ⟨d0, d1⟩ (fun hHeld => ?_)
   clear d0 d1
   refine wpAnyH_take (i := 0) (v := ?_) rfl (by kernel_rfl) (by kernel_rfl) (by kernel_rfl) (fun _ _ _ h => h) (Or.inl ⟨by rfl, ?_⟩) (by assumption) ?_
   rotate_left
   ·(intro w hSw; (try dsimp only at hSw); simp only [List.getElem_toArray, List.getElem_cons_zero, List.getElem_cons_succ]; go_simp; first | done | with_reducible rfl)
   simp only [List.getElem_toArray, List.getElem_cons_zero, List.getElem_cons_succ, Act.put, List.setIfInBounds_toArray, List.set_cons_zero, List.set_cons_succ]
   refine wpAnyH_take (i := 1) (v := ?_) rfl (by kernel_rfl) (by kernel_rfl) (by kernel_rfl) (fun _ _ _ h => h) (Or.inl ⟨by rfl, ?_⟩) (by assumption) ?_
   rotate_left
   ·(intro w hSw; (try dsimp only at hSw); simp only [List.getElem_toArray, List.getElem_cons_zero, List.getElem_cons_succ]; go_simp; first | done | with_reducible rfl)
   simp only [List.getElem_toArray, List.getElem_cons_zero, List.getElem_cons_succ, Act.put, List.setIfInBounds_toArray, List.set_cons_zero, List.set_cons_succ]
   refine wpAnyH_take (i := 2) (v := ?_) rfl (by kernel_rfl) (by kernel_rfl) (by kernel_rfl) (fun _ _ _ h => h) (Or.inl ⟨by rfl, ?_⟩) (by assumption) ?_
   rotate_left
   ·(intro w hSw; (try dsimp only at hSw); simp only [List.getElem_toArray, List.getElem_cons_zero, List.getElem_cons_succ]; go_simp; first | done | with_reducible rfl)
   simp only [List.getElem_toArray, List.getElem_cons_zero, List.getElem_cons_succ, Act.put, List.setIfInBounds_toArray, List.set_cons_zero, List.set_cons_succ]
   refine wpAnyH_take (i := 5) (v := ?_) rfl (by kernel_rfl) (by kernel_rfl) (by kernel_rfl) (fun _ _ _ h => h) (Or.inl ⟨by rfl, ?_⟩) (by assumption) ?_
   rotate_left
   ·(intro w hSw; (try dsimp only at hSw); simp only [List.getElem_toArray, List.getElem_cons_zero, List.getElem_cons_succ]; go_simp; first | done | with_reducible rfl)
   simp only [List.getElem_toArray, List.getElem_cons_zero, List.getElem_cons_succ, Act.put, List.setIfInBounds_toArray, List.set_cons_zero, List.set_cons_succ]
   refine wpAnyH_take (i := 6) (v := ?_) rfl (by kernel_rfl) (by kernel_rfl) (by kernel_rfl) (fun _ _ _ h => h) (Or.inl ⟨by rfl, ?_⟩) (by assumption) ?_
   rotate_left
   ·(intro w hSw; (try dsimp only at hSw); simp only [List.getElem_toArray, List.getElem_cons_zero, List.getElem_cons_succ]; go_simp; first | done | with_reducible rfl)
   simp only [List.getElem_toArray, List.getElem_cons_zero, List.getElem_cons_succ, Act.put, List.setIfInBounds_toArray, List.set_cons_zero, List.set_cons_succ]
   refine wpAnyH_take (i := 7) (v := ?_) rfl (by kernel_rfl) (by kernel_rfl) (by kernel_rfl) (fun _ _ _ h => h) (Or.inl ⟨by rfl, ?_⟩) (by assumption) ?_
   rotate_left
   ·(intro w hSw; (try dsimp only at hSw); simp only [List.getElem_toArray, List.getElem_cons_zero, List.getElem_cons_succ]; go_simp; first | done | with_reducible rfl)
   simp only [List.getElem_toArray, List.getElem_cons_zero, List.getElem_cons_succ, Act.put, List.setIfInBounds_toArray, List.set_cons_zero, List.set_cons_succ]
   refine wpAnyH_ready (rs := [3, 10]) (by kernel_rfl) (by simp) ?_
   refine AllReadyH.cons rfl (fun K hK => ?_) (AllReadyH.cons rfl (fun K hK => ?_) (AllReadyH.nil))
   ·simp only [List.getElem_toArray, List.getElem_cons_zero, List.getElem_cons_succ]
    go_simp
    refine (number_any _ _).mono ?_
    rintro e wx ⟨rfl, rfl⟩
    dsimp only
    refine hK.out _ _ ?_ (fun hHeld => ?_)
    ·exact hHeld
    clear hK K
    try simp only [Act.put, List.setIfInBounds_toArray, List.set_cons_zero, List.set_cons_succ]
    refine wpAnyH_take (i := 4) (v := ?_) rfl (by kernel_rfl) (by kernel_rfl) (by kernel_rfl) (fun _ _ _ h => h) (Or.inl ⟨by rfl, ?_⟩) (by assumption) ?_
    rotate_left
    ·(intro w hSw; (try dsimp only at hSw); simp only [List.getElem_toArray, List.getElem_cons_zero, List.getElem_cons_succ]; go_simp; first | done | with_reducible rfl)
    simp only [List.getElem_toArray, List.getElem_cons_zero, List.getElem_cons_succ, Act.put, List.setIfInBounds_toArray, List.set_cons_zero, List.set_cons_succ]
    refine wpAnyH_ready (rs := [8, 10]) (by kernel_rfl) (by simp) ?_
    refine AllReadyH.cons rfl (fun K hK => ?_) (AllReadyH.cons rfl (fun K hK => ?_) (AllReadyH.nil))
    ·simp only [List.getElem_toArray, List.getElem_cons_zero, List.getElem_cons_succ]
     go_simp
     refine (number_any _ _).mono ?_
     rintro e wx ⟨rfl, rfl⟩
     dsimp only
     refine hK.out _ _ ?_ (fun hHeld => ?_)
     ·exact hHeld
     clear hK K
     try simp only [Act.put, List.setIfInBounds_toArray, List.set_cons_zero, List.set_cons_succ]
     refine wpAnyH_take (i := 9) (v := ?_) rfl (by kernel_rfl) (by kernel_rfl) (by kernel_rfl) (fun _ _ _ h => h) (Or.inl ⟨by rfl, ?_⟩) (by assumption) ?_
     rotate_left
     ·(intro w hSw; (try dsimp only at hSw); simp only [List.getElem_toArray, List.getElem_cons_zero, List.getElem_cons_succ]; go_simp; first | done | with_reducible rfl)
     simp only [List.getElem_toArray, List.getElem_cons_zero, List.getElem_cons_succ, Act.put, List.setIfInBounds_toArray, List.set_cons_zero, List.set_cons_succ]
     refine wpAnyH_ready (rs := [10]) (by kernel_rfl) (by simp) ?_
     refine AllReadyH.cons rfl (fun K hK => ?_) AllReadyH.nil
     simp only [List.getElem_toArray, List.getElem_cons_zero, List.getElem_cons_succ]
     go_simp
     refine hK.out _ _ ?_ (fun hHeld => ?_)
     ·exact HSA.out _
     clear hK K
     try simp only [Act.put, List.setIfInBounds_toArray, List.set_cons_zero, List.set_cons_succ]
     refine wpAnyH_ready (rs := [11]) (by kernel_rfl) (by simp) ?_
     refine AllReadyH.cons rfl (fun K hK => ?_) AllReadyH.nil
     simp only [List.getElem_toArray, List.getElem_cons_zero, List.getElem_cons_succ]
     go_simp
     refine hK.out _ _ ?_ (fun hHeld => ?_)
     ·exact HSA.out _
     clear hK K
     try simp only [Act.put, List.setIfInBounds_toArray, List.set_cons_zero, List.set_cons_succ]
     refine wpAnyH_done (by kernel_rfl) ?_ _
     go_wp2_with fail
     go_meet
     exact ⟨by rw [← hP], rfl⟩
    ·simp only [List.getElem_toArray, List.getElem_cons_zero, List.getElem_cons_succ]
     go_simp
     refine hK.out _ _ ?_ (fun hHeld => ?_)
     ·exact HSA.out _
     clear hK K
     try simp only [Act.put, List.setIfInBounds_toArray, List.set_cons_zero, List.set_cons_succ]
     refine wpAnyH_ready (rs := [8]) (by kernel_rfl) (by simp) ?_
     refine AllReadyH.cons rfl (fun K hK => ?_) AllReadyH.nil
     simp only [List.getElem_toArray, List.getElem_cons_zero, List.getElem_cons_succ]
     go_simp
     refine (number_any _ _).mono ?_
     rintro e wx ⟨rfl, rfl⟩
     dsimp only
     refine hK.out _ _ ?_ (fun hHeld => ?_)
     ·exact hHeld
     clear hK K
     try simp only [Act.put, List.setIfInBounds_toArray, List.set_cons_zero, List.set_cons_succ]
     refine wpAnyH_take (i := 9) (v := ?_) rfl (by kernel_rfl) (by kernel_rfl) (by kernel_rfl) (fun _ _ _ h => h) (Or.inl ⟨by rfl, ?_⟩) (by assumption) ?_
     rotate_left
     ·(intro w hSw; (try dsimp only at hSw); simp only [List.getElem_toArray, List.getElem_cons_zero, List.getElem_cons_succ]; go_simp; first | done | with_reducible rfl)
     simp only [List.getElem_toArray, List.getElem_cons_zero, List.getElem_cons_succ, Act.put, List.setIfInBounds_toArray, List.set_cons_zero, List.set_cons_succ]
     refine wpAnyH_ready (rs := [11]) (by kernel_rfl) (by simp) ?_
     refine AllReadyH.cons rfl (fun K hK => ?_) AllReadyH.nil
     simp only [List.getElem_toArray, List.getElem_cons_zero, List.getElem_cons_succ]
     go_simp
     refine hK.out _ _ ?_ (fun hHeld => ?_)
     ·exact HSA.out _
     clear hK K
     try simp only [Act.put, List.setIfInBounds_toArray, List.set_cons_zero, List.set_cons_succ]
     refine wpAnyH_done (by kernel_rfl) ?_ _
     go_wp2_with fail
     go_meet
     exact ⟨by rw [← hP], rfl⟩
   ·simp only [List.getElem_toArray, List.getElem_cons_zero, List.getElem_cons_succ]
    go_simp
    refine hK.out _ _ ?_ (fun hHeld => ?_)
    ·exact HSA.out _
    clear hK K
    try simp only [Act.put, List.setIfInBounds_toArray, List.set_cons_zero, List.set_cons_succ]
    refine wpAnyH_ready (rs := [3]) (by kernel_rfl) (by simp) ?_
    refine AllReadyH.cons rfl (fun K hK => ?_) AllReadyH.nil
    simp only [List.getElem_toArray, List.getElem_cons_zero, List.getElem_cons_succ]
    go_simp
    refine (number_any _ _).mono ?_
    rintro e wx ⟨rfl, rfl⟩
    dsimp only
    refine hK.out _ _ ?_ (fun hHeld => ?_)
    ·exact hHeld
    clear hK K
    try simp only [Act.put, List.setIfInBounds_toArray, List.set_cons_zero, List.set_cons_succ]
    refine wpAnyH_take (i := 4) (v := ?_) rfl (by kernel_rfl) (by kernel_rfl) (by kernel_rfl) (fun _ _ _ h => h) (Or.inl ⟨by rfl, ?_⟩) (by assumption) ?_
    rotate_left
    ·(intro w hSw; (try dsimp only at hSw); simp only [List.getElem_toArray, List.getElem_cons_zero, List.getElem_cons_succ]; go_simp; first | done | with_reducible rfl)
    simp only [List.getElem_toArray, List.getElem_cons_zero, List.getElem_cons_succ, Act.put, List.setIfInBounds_toArray, List.set_cons_zero, List.set_cons_succ]
    refine wpAnyH_ready (rs := [8]) (by kernel_rfl) (by simp) ?_
    refine AllReadyH.cons rfl (fun K hK => ?_) AllReadyH.nil
    simp only [List.getElem_toArray, List.getElem_cons_zero, List.getElem_cons_succ]
    go_simp
    refine (number_any _ _).mono ?_
    rintro e wx ⟨rfl, rfl⟩
    dsimp only
    refine hK.out _ _ ?_ (fun hHeld => ?_)
    ·exact hHeld
    clear hK K
    try simp only [Act.put, List.setIfInBounds_toArray, List.set_cons_zero, List.set_cons_succ]
    refine wpAnyH_take (i := 9) (v := ?_) rfl (by kernel_rfl) (by kernel_rfl) (by kernel_rfl) (fun _ _ _ h => h) (Or.inl ⟨by rfl, ?_⟩) (by assumption) ?_
    rotate_left
    ·(intro w hSw; (try dsimp only at hSw); simp only [List.getElem_toArray, List.getElem_cons_zero, List.getElem_cons_succ]; go_simp; first | done | with_reducible rfl)
    simp only [List.getElem_toArray, List.getElem_cons_zero, List.getElem_cons_succ, Act.put, List.setIfInBounds_toArray, List.set_cons_zero, List.set_cons_succ]
    refine wpAnyH_ready (rs := [11]) (by kernel_rfl) (by simp) ?_
    refine AllReadyH.cons rfl (fun K hK => ?_) AllReadyH.nil
    simp only [List.getElem_toArray, List.getElem_cons_zero, List.getElem_cons_succ]
    go_simp
    refine hK.out _ _ ?_ (fun hHeld => ?_)
    ·exact HSA.out _
    clear hK K
    try simp only [Act.put, List.setIfInBounds_toArray, List.set_cons_zero, List.set_cons_succ]
    refine wpAnyH_done (by kernel_rfl) ?_ _
    go_wp2_with fail
    go_meet
    exact ⟨by rw [← hP], rfl⟩
  case rest =>
   obtain ⟨rfl, rfl⟩ := hcut
   have HB4 : Hid (Below w.heap.size w ((w1.alloc (.cells (msZ (x0 : Int) y0).toArray 80)).drew)) := Lib.hid (balloc HB1.out.drew _)
   have HX4 : Hid (((w1.alloc (.cells (msZ (x0 : Int) y0).toArray 80)).drew).heap[w.heap.size]? = some (.cells zM.toArray 80 (0, 0))) := Lib.hid ((Below.heap_alloc _ _ _ (Array.getElem?_eq_some_iff.1 HX1.out).1).trans HX1.out)
   have HP4 : Hid (((w1.alloc (.cells (msZ (x0 : Int) y0).toArray 80)).drew).heap[P]? = some (.cells (msZ (x0 : Int) y0).toArray 80 (0, 0))) := Lib.hid (by rw [← hP]; exact heap_alloc_new w1.drew _)
   have k0 : ((w1.alloc (.cells (msZ (x0 : Int) y0).toArray 80)).drew).cell? ⟨P, 0, none⟩ = some (.int .i64 (x0 : Int)) := cellIs HP4.out rfl
   clear hst hwr d0 d1 hP HSA
   generalize (w1.alloc (.cells (msZ (x0 : Int) y0).toArray 80)).drew = w4 at *
   go_wp2_with fail
   clear k0
   refine (namesM_any (x0 : Int) _).mono ?_
   rintro e w5 ⟨rfl, hb5⟩
   obtain ⟨K, hK⟩ : ∃ K, w5.heap.size = K := ⟨_, rfl⟩
   have HI : Hid (MOf P K w (strB (nmM (x0 : Int))) 0 (msK (x0 : Int) y0) (w5.iter (strB (nmM (x0 : Int))) 0)) := Lib.hid (by
    have hbi : Below w5.heap.size w5 (w5.iter (strB (nmM (x0 : Int))) 0) := balloc (Below.refl _ _) _
    have hb := bthen hb5 hbi
    have h4 := (Array.getElem?_eq_some_iff.1 HX4.out).1
    have hp4 := (Array.getElem?_eq_some_iff.1 HP4.out).1
    have hsz := hb5.size
    exact ⟨hK ▸ World.iter_heap w5 _ 0, (hb.block _ h4).trans HX4.out, ⟨_, _, (hb.block _ hp4).trans HP4.out, World.ownsRow_nil _ _ _ _, World.ownsRow_nil _ _ _ _⟩, bthen HB4.out hb, HPZ.out.1, by omega⟩)
   clear hb5
   go_wp2_with fail
   clear hK
   generalize w5.iter (strB (nmM (x0 : Int))) 0 = wi at HI ⊢
   have HL := Lib.hid (nmM_low (x0 : Int))
   have HNI := Lib.hid (nmM_nine (x0 : Int))
   have HCS := Lib.hid (chs_str (nmM (x0 : Int)))
   have HSS := Lib.hid (str_size (nmM (x0 : Int)))
   have HN3 := Lib.hid (nmM_len (x0 : Int))
   generalize nmM (x0 : Int) = ks at *
   generalize hs : strB ks = s at *
   have HS := Lib.hid hs
   have hsz3 : s.size ≤ 3 := by rw [HSS.out]; exact HN3.out
   clear hs HX0 HB0 HX1 HB1 HX4 HP4 HB4
   go_loopg [5] s.size (fun g a wr => ∃ (pos at' : Nat) (m : Ms0), pos ≤ s.size ∧ g = s.size - pos ∧ .int .i64 (at' : Int) = a ∧ OfI bs ks pos at' m ∧ MOf P K w s pos m wr)
   case atStart => exact ⟨0, q, _, by omega, by omega, rfl, HOI.out, HI.out⟩
   case round =>
    obtain ⟨pos, at', m, hp, hg, hat, hoi, hmm⟩ := hrel
    subst hat
    have HG := Lib.hid hg
    have HM := Lib.hid hmm
    have HO := Lib.hid hoi
    have hle : at' ≤ n := by rw [← HN.out]; exact hoi.le
    have hit : wr.heap[K]? = some (.stringIter s pos) := hmm.it
    clear hg hmm hoi HI HOI
    by_cases hlt : pos < s.size
    ·obtain ⟨c, hc⟩ : ∃ c, (s[pos]'hlt) = c := ⟨_, rfl⟩
     have hget : ks[pos]? = some c := by
      have h1 := chs_get hlt
      rw [HCS.out, hc] at h1; exact h1
     have hlow : c.toNat < 128 := HL.out c (List.mem_of_getElem? hget)
     have hdec : Utf8.decode s pos = (c.toNat, 1) := by rw [← hc]; exact decode_ascii s pos hlt (by rw [hc]; exact hlow)
     have hnx := fun ty => Lib.run_next_any_at (P := Tryz.prog) wr K s pos ty hit hlt
     simp only [hdec] at hnx
     have HM2 : Hid (MOf P K w s (pos + 1) m (wr.iterAt K s (pos + 1))) := Lib.hid HM.out.next
     obtain ⟨wr2, hwr2⟩ : ∃ W, wr.iterAt K s (pos + 1) = W := ⟨_, rfl⟩
     rw [hwr2] at hnx HM2
     have HGET := Lib.hid hget
     have HNC := Lib.hid (HNI.out c (List.mem_of_getElem? hget))
     clear hwr2 hit hdec hc hget hlow
     obtain ⟨kk, hkk⟩ : ∃ kk, ((bs.drop at').headD 0).toNat = kk := ⟨_, rfl⟩
     have HKK := Lib.hid hkk
     go_upto_if 43 with fail
     clear hnx
     go_cut [10] (fun k wx => k = .int .i64 (kk : Int) ∧ wr2 = wx)
     case first =>
      by_cases hln : at' < n
      ·have hbl : at' < bs.length := by rw [HN.out]; exact hln
       have hbx : (bV bs)[at']? = some (.int .u8 (((bs[at']'hbl).toNat : Nat) : Int)) := by simp [bV, hbl]
       obtain ⟨b, off, rfl, hblt, hcb⟩ := HCE.out at' _ hbx
       have hcb2 : wr2.cell? ⟨b, off + at', none⟩ = some (.int .u8 (kk : Int)) := by
        have e : (bs[at']'hbl).toNat = kk := by
         rw [← hkk, List.drop_eq_getElem_cons hbl]; rfl
        rw [← e]
        exact (HM2.out.below.cell (p := ⟨b, off + at', none⟩) hblt).trans hcb
       have hk8 : kk < 256 := by rw [← hkk]; exact UInt8.toNat_lt _
       have hwk : IntKind.i64.wrap (kk : Int) = (kk : Int) := IntWalk.i64_in _ (by omega)
       have hdl : decide (at' < n) = true := decide_eq_true hln
       clear hkk hbx hcb
       go_wp2_with fail
       go_meet
       exact ⟨rfl, rfl⟩
      ·have hk0 : kk = 0 := by
        rw [← hkk, List.drop_eq_nil_of_le (by rw [HN.out]; omega)]; rfl
       subst hk0
       have hdl : decide (at' < n) = false := decide_eq_false hln
       clear hkk
       go_wp2_with fail
       go_meet
       exact ⟨rfl, rfl⟩
     case rest =>
      obtain ⟨rfl, rfl⟩ := hcut
      have hcut2 := fun W => run_cutL (P := Tryz.prog) W 34 ao n cap 1 undBytes szBytes (at' : Int) (by omega) (by omega)
      have htn : ((at' : Nat) : Int).toNat = at' := by omega
      rw [htn] at hcut2
      have HTL : Hid (∀ W, Below w.heap.size w W → Rd W 1 (.slice (cutA ao cap at' 1) (n - at') (cap - at')) (n - at') (bV (bs.drop at'))) := Lib.hid (fun W hW => (HD.out.below hW).tail hle)
      generalize cutA ao cap at' 1 = A1 at *
      have CU2 : Hid (∀ W, Below w.heap.size w W → Calls Tryz.prog 36 #[.string (strB (shapeC (c.toNat : Int) (kk : Int))), .slice A1 (n - at') (cap - at')] W fun e w' => ∃ (v' : Value) (q : Nat) (code : Int), e = .returned (.tuple #[v', .int .i64 (q : Int), .int .i64 code]) ∧ Below W.heap.size W w' ∧ ((unpack (shapeC (c.toNat : Int) (kk : Int)) (bs.drop at') = none ∧ code = 4) ∨ (code = 0 ∧ ∃ l, unpack (shapeC (c.toNat : Int) (kk : Int)) (bs.drop at') = some (l, q) ∧ RowV 0 w' v' l))) := Lib.hid (fun W hW => by
       have h := unpack_any (strB (shapeC (c.toNat : Int) (kk : Int))) (HTL.out W hW) (by omega) (by rw [str_size]; have := shapeC_len (c.toNat : Int) (kk : Int); omega)
       rw [chs_str, may_C] at h
       exact h.mono fun _ _ hh => u_of hh)
      clear hkk
      go_upto_region 11 with fail
      refine wp_region_held_drew (S := fun X => Below wr2.heap.size wr2 X) (by kernel_rfl) ((Below.refl _ _).drew) (fun hHeld => ?_)
      refine wpAnyH_take (i := 0) (v := ?_) rfl (by kernel_rfl) (by kernel_rfl) (by kernel_rfl) (fun _ _ _ h => h) (Or.inl ⟨by rfl, ?_⟩) (by assumption) ?_
      rotate_left
      ·(intro w hSw; (try dsimp only at hSw); simp only [List.getElem_toArray, List.getElem_cons_zero, List.getElem_cons_succ]; go_simp; first | done | with_reducible rfl)
      simp only [List.getElem_toArray, List.getElem_cons_zero, List.getElem_cons_succ, Act.put, List.setIfInBounds_toArray, List.set_cons_zero, List.set_cons_succ]
      refine wpAnyH_take (i := 1) (v := ?_) rfl (by kernel_rfl) (by kernel_rfl) (by kernel_rfl) (fun _ _ _ h => h) (Or.inl ⟨by rfl, ?_⟩) (by assumption) ?_
      rotate_left
      ·(intro w hSw; (try dsimp only at hSw); simp only [List.getElem_toArray, List.getElem_cons_zero, List.getElem_cons_succ]; go_simp; first | done | with_reducible rfl)
      simp only [List.getElem_toArray, List.getElem_cons_zero, List.getElem_cons_succ, Act.put, List.setIfInBounds_toArray, List.set_cons_zero, List.set_cons_succ]
      refine wpAnyH_take (i := 3) (v := ?_) rfl (by kernel_rfl) (by kernel_rfl) (by kernel_rfl) (fun _ _ _ h => h) (Or.inl ⟨by rfl, ?_⟩) (by assumption) ?_
      rotate_left
      ·(intro w hSw; (try dsimp only at hSw); simp only [List.getElem_toArray, List.getElem_cons_zero, List.getElem_cons_succ]; go_simp; first | done | with_reducible rfl)
      simp only [List.getElem_toArray, List.getElem_cons_zero, List.getElem_cons_succ, Act.put, List.setIfInBounds_toArray, List.set_cons_zero, List.set_cons_succ]
      refine wpAnyH_take (i := 4) (v := ?_) rfl (by kernel_rfl) (by kernel_rfl) (by kernel_rfl) (fun _ _ _ h => h) (Or.inl ⟨by rfl, ?_⟩) (by assumption) ?_
      rotate_left
      ·(intro w hSw; (try dsimp only at hSw); simp only [List.getElem_toArray, List.getElem_cons_zero, List.getElem_cons_succ]; go_simp; first | done | with_reducible rfl)
      simp only [List.getElem_toArray, List.getElem_cons_zero, List.getElem_cons_succ, Act.put, List.setIfInBounds_toArray, List.set_cons_zero, List.set_cons_succ]
      refine wpAnyH_take (i := 5) (v := ?_) rfl (by kernel_rfl) (by kernel_rfl) (by kernel_rfl) (fun _ _ _ h => h) (Or.inl ⟨by rfl, ?_⟩) (by assumption) ?_
      rotate_left
      ·(intro w hSw; (try dsimp only at hSw); simp only [List.getElem_toArray, List.getElem_cons_zero, List.getElem_cons_succ]; go_simp; first | done | with_reducible rfl)
      simp only [List.getElem_toArray, List.getElem_cons_zero, List.getElem_cons_succ, Act.put, List.setIfInBounds_toArray, List.set_cons_zero, List.set_cons_succ]
      refine wpAnyH_ready (rs := [2]) (by kernel_rfl) (by simp) ?_
      refine AllReadyH.cons rfl (fun K hK => ?_) AllReadyH.nil
      simp only [List.getElem_toArray, List.getElem_cons_zero, List.getElem_cons_succ]
      go_simp
      refine (shapeC_any (c.toNat : Int) (kk : Int) _).mono ?_
      rintro e wx ⟨rfl, rfl⟩
      dsimp only
      refine hK.out _ _ ?_ (fun hHeld => ?_)
      ·exact hHeld
      clear hK K
      try simp only [Act.put, List.setIfInBounds_toArray, List.set_cons_zero, List.set_cons_succ]
      refine wpAnyH_ready (rs := [6]) (by kernel_rfl) (by simp) ?_
      refine AllReadyH.cons rfl (fun K hK => ?_) AllReadyH.nil
      simp only [List.getElem_toArray, List.getElem_cons_zero, List.getElem_cons_succ]
      go_simp
      refine (CU2.out _ (bthen HM2.out.below hHeld)).mono ?_
      rintro e w7 ⟨v7, q7, code, rfl, hb7, hP7⟩
      dsimp only
      refine hK.out _ _ ?_ (fun hHeld => ?_)
      ·exact bthen hHeld hb7
      clear hK K
      try simp only [Act.put, List.setIfInBounds_toArray, List.set_cons_zero, List.set_cons_succ]
      refine wpAnyH_take (i := 7) (v := ?_) rfl (by kernel_rfl) (by kernel_rfl) (by kernel_rfl) (fun _ _ _ h => h) (Or.inl ⟨by rfl, ?_⟩) (by assumption) ?_
      rotate_left
      ·(intro w hSw; (try dsimp only at hSw); simp only [List.getElem_toArray, List.getElem_cons_zero, List.getElem_cons_succ]; go_simp; first | done | with_reducible rfl)
      simp only [List.getElem_toArray, List.getElem_cons_zero, List.getElem_cons_succ, Act.put, List.setIfInBounds_toArray, List.set_cons_zero, List.set_cons_succ]
      refine wpAnyH_take (i := 8) (v := ?_) rfl (by kernel_rfl) (by kernel_rfl) (by kernel_rfl) (fun _ _ _ h => h) (Or.inl ⟨by rfl, ?_⟩) (by assumption) ?_
      rotate_left
      ·(intro w hSw; (try dsimp only at hSw); simp only [List.getElem_toArray, List.getElem_cons_zero, List.getElem_cons_succ]; go_simp; first | done | with_reducible rfl)
      simp only [List.getElem_toArray, List.getElem_cons_zero, List.getElem_cons_succ, Act.put, List.setIfInBounds_toArray, List.set_cons_zero, List.set_cons_succ]
      refine wpAnyH_take (i := 9) (v := ?_) rfl (by kernel_rfl) (by kernel_rfl) (by kernel_rfl) (fun _ _ _ h => h) (Or.inl ⟨by rfl, ?_⟩) (by assumption) ?_
      rotate_left
      ·(intro w hSw; (try dsimp only at hSw); simp only [List.getElem_toArray, List.getElem_cons_zero, List.getElem_cons_succ]; go_simp; first | done | with_reducible rfl)
      simp only [List.getElem_toArray, List.getElem_cons_zero, List.getElem_cons_succ, Act.put, List.setIfInBounds_toArray, List.set_cons_zero, List.set_cons_succ]
      refine wpAnyH_take (i := 10) (v := ?_) rfl (by kernel_rfl) (by kernel_rfl) (by kernel_rfl) (fun _ _ _ h => h) (Or.inl ⟨by rfl, ?_⟩) (by assumption) ?_
      rotate_left
      ·(intro w hSw; (try dsimp only at hSw); simp only [List.getElem_toArray, List.getElem_cons_zero, List.getElem_cons_succ]; go_simp; first | done | with_reducible rfl)
      simp only [List.getElem_toArray, List.getElem_cons_zero, List.getElem_cons_succ, Act.put, List.setIfInBounds_toArray, List.set_cons_zero, List.set_cons_succ]
      refine wpAnyH_take (i := 11) (v := ?_) rfl (by kernel_rfl) (by kernel_rfl) (by kernel_rfl) (fun _ _ _ h => h) (Or.inl ⟨by rfl, ?_⟩) (by assumption) ?_
      rotate_left
      ·(intro w hSw; (try dsimp only at hSw); simp only [List.getElem_toArray, List.getElem_cons_zero, List.getElem_cons_succ]; go_simp; first | done | with_reducible rfl)
      simp only [List.getElem_toArray, List.getElem_cons_zero, List.getElem_cons_succ, Act.put, List.setIfInBounds_toArray, List.set_cons_zero, List.set_cons_succ]
      refine wpAnyH_take (i := 12) (v := ?_) rfl (by kernel_rfl) (by kernel_rfl) (by kernel_rfl) (fun _ _ _ h => h) (Or.inl ⟨by rfl, ?_⟩) (by assumption) ?_
      rotate_left
      ·(intro w hSw; (try dsimp only at hSw); simp only [List.getElem_toArray, List.getElem_cons_zero, List.getElem_cons_succ]; go_simp; first | done | with_reducible rfl)
      simp only [List.getElem_toArray, List.getElem_cons_zero, List.getElem_cons_succ, Act.put, List.setIfInBounds_toArray, List.set_cons_zero, List.set_cons_succ]
      refine wpAnyH_take (i := 13) (v := ?_) rfl (by kernel_rfl) (by kernel_rfl) (by kernel_rfl) (fun _ _ _ h => h) (Or.inl ⟨by rfl, ?_⟩) (by assumption) ?_
      rotate_left
      ·(intro w hSw; (try dsimp only at hSw); simp only [List.getElem_toArray, List.getElem_cons_zero, List.getElem_cons_succ]; go_simp; first | done | with_reducible rfl)
      simp only [List.getElem_toArray, List.getElem_cons_zero, List.getElem_cons_succ, Act.put, List.setIfInBounds_toArray, List.set_cons_zero, List.set_cons_succ]
      refine wpAnyH_done (by kernel_rfl) ?_ _
      have HM7 := Lib.hid (HM2.out.mono hHeld)
      clear hHeld hb7 hcut2 htn
      rcases hP7 with ⟨hu7, rfl⟩ | ⟨rfl, l7, hu7, hrow7⟩
      ·have HE : Hid (ofM bs = none) := Lib.hid (HO.out.no HGET.out (by rw [HKK.out]; exact hu7))
       clear hu7
       have HBB := Lib.hid HM7.out.below
       have HXB := Lib.hid HM7.out.rb
       obtain ⟨WB, hWB⟩ : ∃ W, W = w7 := ⟨_, rfl⟩
       subst hWB
       have HTH : Hid (WB.there w.heap.size 0 290) := Lib.hid (there_of HXB.out (by rw [List.size_toArray]; exact zM_len))
       have HFIN : Hid (Below w.heap.size w (WB.setCells w.heap.size 0 zM)) := Lib.hid (belowSetC (Nat.le_refl _) _ _ _ HBB.out)
       go_wp2_with ((try rw [zM_eq]); refine wpList_store_mid rfl 80 _ _ rfl w.heap.size 0 zM.toArray rfl rfl HTH.out infoZM oneZM ?_)
       exact bodyPost_ret (v := .tuple #[.agg zM.toArray, .int .i64 4]) (resMt rfl _ _ _ _ rfl rfl zM_len HTH.out) rfl (MOfP.none_of HE.out rfl HFIN.out)
      ·obtain ⟨hst7, hql⟩ := HO.out.step HGET.out HNC.out (by rw [HKK.out]; exact hu7)
       rw [HN.out] at hql
       have HST := Lib.hid hst7
       obtain ⟨t1, t2, hbm, ho1, ho2⟩ := HM7.out.bx
       have hdm := HO.out.ok.item.data
       have hw7 : w.heap.size + 1 ≤ w7.heap.size := HM7.out.lt.1
       have HCW := Lib.hid (with_any m c HNC.out (bs := bs.drop at') (by rw [HKK.out]; exact hu7) (by rw [List.length_drop, HN.out]; omega) hst7.ok.item.data t1 t2 v7 w7 0 (w.heap.size + 1) hw7 ho1 ho2 hdm hrow7)
       obtain ⟨CL, hCL, hcl⟩ : ∃ L, msL m t1 t2 = L ∧ L.length = 290 := ⟨_, rfl, msL_len hdm⟩
       unfold BM at hbm
       rw [hCL] at hbm HCW
       have HRC : Hid (w7.rangeAt P 0 CL) := Lib.hid (fun j z hj => by
        rw [Nat.zero_add]
        exact cellIs hbm (by simpa using hj))
       have HIC : Hid ((Tryz.prog.info? 80).map (·.size) = some CL.length) := Lib.hid (by rw [hcl]; exact infoMs)
       have hwa : IntKind.i64.wrap ((at' : Int) + (q7 : Int)) = ((at' + q7 : Nat) : Int) := by
        rw [Int.natCast_add]
        exact IntWalk.i64_in _ (by omega)
       clear hu7 hrow7 hst7 hbm ho1 ho2 hdm hw7 hCL hcl
       go_wp2_with (refine wpList_load_mid rfl 80 _ rfl P 0 rfl CL _ HRC.out Tryz.underlying80 rfl HIC.out ?_)
       refine HCW.out.mono ?_
       rintro e w8 ⟨hb8, z1, z2, rfl, hz1, hz2⟩
       have HM8 := Lib.hid (HM7.out.mono hb8)
       have HM9 := Lib.hid (HM8.out.store HO.out.ok.item.data HST.out.ok.item.data hz1 hz2)
       obtain ⟨DL, hDL, hdl, hdo⟩ : ∃ L, msL (getM m (c.toNat : Int) l7) z1 z2 = L ∧ L.length = 290 ∧ L.toArray.all (·.oneCell') = true := ⟨_, rfl, msL_len HST.out.ok.item.data, all_oneL (msL_one (oneOwn hz1) (oneOwn hz2))⟩
       rw [hDL] at HM9
       rw [hDL]
       have HT8 : Hid (w8.there P 0 DL.toArray.size) := Lib.hid (by
        obtain ⟨t1, t2, hbm, _⟩ := HM8.out.bx
        exact there_mid (N := 290) hbm (by rw [List.size_toArray]; exact msL_len HO.out.ok.item.data) (by rw [List.size_toArray, hdl]; omega))
       have HI8 : Hid ((Tryz.prog.info? 80).map (·.size) = some DL.toArray.size) := Lib.hid (by rw [List.size_toArray, hdl]; exact infoMs)
       have HO8 := Lib.hid hdo
       clear hb8 hz1 hz2 hDL hdl hdo HCW
       go_wp2_with (refine wpList_store_mid rfl 80 _ _ rfl P 0 DL.toArray rfl rfl HT8.out HI8.out HO8.out ?_)
       go_roundg (s.size - (pos + 1))
       case rel => exact ⟨pos + 1, at' + q7, _, by omega, rfl, rfl, HST.out, HM9.out⟩
       case measure => have := HG.out; omega
    ·obtain rfl : pos = s.size := by omega
     have hnx := fun ty => Lib.run_next_end_at (P := Tryz.prog) wr K s s.size ty hit (by omega)
     have HFN := Lib.hid (HO.out.fin (by rw [← HSS.out]; exact Nat.le_refl _))
     obtain ⟨t1, t2, hbm, ho1, ho2⟩ := HM.out.bx
     have hok := HO.out.ok
     have CM := mayM_any m hok t1 t2 wr (Rd.of_own ho1) (Rd.of_own ho2)
     obtain ⟨CL, hCL, hcl, hco⟩ : ∃ L, msL m t1 t2 = L ∧ L.length = 290 ∧ L.toArray.all (·.oneCell') = true := ⟨_, rfl, msL_len hok.item.data, all_oneL (msL_one (oneOwn ho1) (oneOwn ho2))⟩
     unfold BM at hbm
     rw [hCL] at hbm CM
     have HCL := Lib.hid hCL
     have HBM := Lib.hid hbm
     have HRC : Hid (wr.rangeAt P 0 CL) := Lib.hid (fun j z hj => by
      rw [Nat.zero_add]
      exact cellIs HBM.out (by simpa using hj))
     have HIC : Hid ((Tryz.prog.info? 80).map (·.size) = some CL.length) := Lib.hid (by rw [hcl]; exact infoMs)
     have HIC2 : Hid ((Tryz.prog.info? 80).map (·.size) = some CL.toArray.size) := Lib.hid (by rw [List.size_toArray, hcl]; exact infoMs)
     have HCO := Lib.hid (And.intro hcl hco)
     have HOW := Lib.hid (And.intro ho1 ho2)
     clear hok hCL hcl hco hbm ho1 ho2 hit
     by_cases hq : at' = n
     ·have HFN2 : Hid (ofM bs = if mayM m = true then some m else none) := Lib.hid (by
       rw [HFN.out, HN.out]
       simp only [hq, true_and])
      have hqn : ((at' : Int) != (n : Int)) = false := by rw [bne_eq_false_iff_eq]; omega
      obtain ⟨y, hy⟩ : ∃ y, mayM m = y := ⟨_, rfl⟩
      rw [hy] at CM HFN2
      have HCM := Lib.hid CM
      clear CM hq hy
      go_wp2_with (refine wpList_load_met (by kernel_rfl) 80 _ rfl P 0 rfl CL _ HRC.out Tryz.underlying80 rfl HIC.out ?_)
      refine HCM.out.mono ?_
      rintro e WB ⟨rfl, hbw⟩
      have HMB := Lib.hid (HM.out.mono hbw)
      have HBB := Lib.hid HMB.out.below
      have HXB := Lib.hid HMB.out.rb
      have HRB : Hid (WB.rangeAt P 0 CL) := Lib.hid (rangeAt_below HRC.out HM.out.lt.2.1 hbw)
      have HOB := Lib.hid (And.intro (ownsRow_below HOW.out.1 hbw) (ownsRow_below HOW.out.2 hbw))
      clear hbw hnx hqn
      cases y with
      | false =>
       have HE : Hid (ofM bs = none) := Lib.hid (by rw [HFN2.out]; rfl)
       have HTH : Hid (WB.there w.heap.size 0 290) := Lib.hid (there_of HXB.out (by rw [List.size_toArray]; exact zM_len))
       have HFIN : Hid (Below w.heap.size w (WB.setCells w.heap.size 0 zM)) := Lib.hid (belowSetC (Nat.le_refl _) _ _ _ HBB.out)
       go_wp2_with ((try rw [zM_eq]); refine wpList_store_mid rfl 80 _ _ rfl w.heap.size 0 zM.toArray rfl rfl HTH.out infoZM oneZM ?_)
       exact bodyPost_ret (v := .tuple #[.agg zM.toArray, .int .i64 4]) (resMt rfl _ _ _ _ rfl rfl zM_len HTH.out) rfl (MOfP.none_of HE.out rfl HFIN.out)
      | true =>
       have HE : Hid (ofM bs = some m) := Lib.hid (by rw [HFN2.out]; rfl)
       have HTH : Hid (WB.there w.heap.size 0 290) := Lib.hid (there_of HXB.out (by rw [List.size_toArray]; exact zM_len))
       have HTH2 : Hid (WB.there w.heap.size 0 CL.toArray.size) := Lib.hid (by rw [show CL.toArray.size = 290 by rw [List.size_toArray]; exact HCO.out.1]; exact HTH.out)
       have HFIN : Hid (Below w.heap.size w (WB.setCells w.heap.size 0 CL)) := Lib.hid (belowSetC (Nat.le_refl _) _ _ _ HBB.out)
       have HF1 : Hid ((WB.setCells w.heap.size 0 CL).ownsRow w.heap.size 5 1 t1 m.op.data.length (bV m.op.data)) := Lib.hid (ownsRow_base (own_setCells_tag HOB.out.1 HXB.out) (Nat.le_succ _))
       have HF2 : Hid ((WB.setCells w.heap.size 0 CL).ownsRow w.heap.size 5 1 t2 m.item.op.data.length (bV m.item.op.data)) := Lib.hid (ownsRow_base (own_setCells_tag HOB.out.2 HXB.out) (Nat.le_succ _))
       go_wp2_with (first
        | (refine wpList_load_mid rfl 80 _ rfl P 0 rfl CL _ HRB.out Tryz.underlying80 rfl HIC.out ?_)
        | (refine wpList_store_mid rfl 80 _ _ rfl w.heap.size 0 CL.toArray rfl rfl HTH2.out HIC2.out HCO.out.2 ?_))
       exact bodyPost_ret (v := .tuple #[.agg CL.toArray, .int .i64 0]) (resMt rfl _ _ _ _ rfl rfl HCO.out.1 HTH.out) rfl (MOfP.some_of HE.out (by rw [HCL.out]) HF1.out HF2.out HFIN.out)
     ·have HE : Hid (ofM bs = none) := Lib.hid (by rw [HFN.out, HN.out, if_neg (fun h => hq h.1)])
      have hqn : ((at' : Int) != (n : Int)) = true := by rw [bne_iff_ne]; omega
      have HBB := Lib.hid HM.out.below
      have HXB := Lib.hid HM.out.rb
      obtain ⟨WB, hWB⟩ : ∃ W, W = wr := ⟨_, rfl⟩
      subst hWB
      clear CM hq
      have HTH : Hid (WB.there w.heap.size 0 290) := Lib.hid (there_of HXB.out (by rw [List.size_toArray]; exact zM_len))
      have HFIN : Hid (Below w.heap.size w (WB.setCells w.heap.size 0 zM)) := Lib.hid (belowSetC (Nat.le_refl _) _ _ _ HBB.out)
      go_wp2_with ((try rw [zM_eq]); refine wpList_store_mid rfl 80 _ _ rfl w.heap.size 0 zM.toArray rfl rfl HTH.out infoZM oneZM ?_)
      exact bodyPost_ret (v := .tuple #[.agg zM.toArray, .int .i64 4]) (resMt rfl _ _ _ _ rfl rfl zM_len HTH.out) rfl (MOfP.none_of HE.out rfl HFIN.out)
end Go.Proofs.YtgkelbdgdhkeoaaGreat
