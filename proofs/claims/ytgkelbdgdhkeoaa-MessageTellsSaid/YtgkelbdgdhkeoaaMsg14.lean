/- Copy of a message, walked. -/
import Derived.Test.YtgkelbdgdhkeoaaMsg12
import Derived.Deep.RegionHeld3
import Derived.Test.YtgkelbdgdhkeoaaWA
import Derived.Test.YtgkelbdgdhkeoaaCR
namespace Go.Proofs.Ytgkelbdgdhkeoaa
open Go.RowKit
set_option linter.unusedVariables false
set_option linter.unusedSimpArgs false
open Wire Cmd

theorem resM {w : World} {fn : Func} {p : Tmp} (h : fn.results = #[.cell p 81]) (tmps : Array Value) (B : Nat) (CS : List Value) (hp : tmps.getD p undef = .pointer (some ⟨B, 0, none⟩)) (hl : CS.length = 290) (ht : w.there B 0 290) :
    (results fn tmps).run Try.prog (w.setCells B 0 CS) = .ok (.agg CS.toArray) (w.setCells B 0 CS) :=
  results_cell_mid h tmps _ B 0 CS _ hp (World.rangeAt_setCells_same w _ _ _ (by rw [hl]; exact ht)) Try.underlying81 rfl (by rw [hl]; exact infoMs)
theorem zeroM : Try.zeroCells81.size = 290 := by kernel_rfl
theorem msL_iop (b : Ms0) (t1 t2 : Value) : msL b t1 t2 = ([.int .i64 b.k, .int .u64 (b.epoch : Int)] ++ stL b.st ++ [.bool b.lead, .int .u64 (b.seq : Int)] ++ opL b.op t1 ++ [.int .i64 b.blocks, .int .u64 (b.num : Int), .int .i64 b.fro, .int .u64 (b.ne : Int), .int .u64 (b.ns : Int)] ++ ([.int .i64 b.item.k, .int .u64 (b.item.vol : Int), .int .i64 b.item.size, .int .i64 b.item.blk] ++ bV b.item.data)) ++ (opL b.item.op t2 ++ [.int .i64 b.item.blocks]) := by
  rw [msL_item, itL]
  simp
theorem msL_iop_len {b : Ms0} {t1 : Value} (h : b.item.data.length = 256) : (([.int .i64 b.k, .int .u64 (b.epoch : Int)] ++ stL b.st ++ [.bool b.lead, .int .u64 (b.seq : Int)] ++ opL b.op t1 ++ [.int .i64 b.blocks, .int .u64 (b.num : Int), .int .i64 b.fro, .int .u64 (b.ne : Int), .int .u64 (b.ns : Int)] ++ ([.int .i64 b.item.k, .int .u64 (b.item.vol : Int), .int .i64 b.item.size, .int .i64 b.item.blk] ++ bV b.item.data) : List Value)).length = 282 := by
  simp [stL, opL_len, bV_len, h]
theorem heap_twoM (w : World) (A B : Array Value) : ((w.alloc (.cells A 81)).alloc (.cells B 81)).heap[w.heap.size + 1]? = some (.cells B 81 (0, 0)) := by
  have h := heap_alloc_new (w.alloc (.cells A 81)) (.cells B 81)
  rw [World.size_alloc] at h
  exact h
theorem own_setCells {W : World} {b o : Nat} {vs : List Value} {base n : Nat} {sl : Value} {xs : List Value} (ho : W.ownsRow base 5 1 sl n xs) (hb : b < base) : (W.setCells b o vs).ownsRow base 5 1 sl n xs :=
  ownsRow_at ho (fun j hj => heapSetC _ _ _ _ _ (fun e => by have := ownsRow_ge ho j hj; omega))
theorem there_mid {w : World} {b o n N : Nat} {cs : Array Value} {t : TypeId} (h : w.heap[b]? = some (.cells cs t (0, 0))) (hn : cs.size = N) (ho : o + n ≤ N) : w.there b o n := fun j hj => by
  refine ⟨?_, frozenOf h (o + j)⟩
  rw [cell_of_row w b (o + j) _ _ _ h, Array.getElem?_eq_getElem (by omega)]; rfl
theorem opL_all {o : Op0} {ao : Option Addr} {n cap : Nat} : (opL o (.slice ao n cap)).toArray.all (·.oneCell') = true := by simp [opL, Value.oneCell']
/-- Both stores. -/
theorem copyStores {w : World} {B : Nat} {m : Ms0} {s1 s2 t1 t2 : Value} (hd : m.item.data.length = 256) (h : w.heap[B]? = some (.cells (msL m s1 s2).toArray 81 (0, 0))) :
    ((w.setCells B 10 (opL m.op t1)).setCells B 282 (opL m.item.op t2)).heap[B]? = some (.cells (msL m t1 t2).toArray 81 (0, 0)) ∧ (w.setCells B 10 (opL m.op t1)).heap[B]? = some (.cells (msL m t1 s2).toArray 81 (0, 0)) := by
  rw [msL_op m s1 s2] at h
  have h1 := setCells_heap (opL m.op t1) w _ (opL m.op s1) _ rfl h
  rw [← msL_op m t1 s2] at h1
  have h1' : (w.setCells B 10 (opL m.op t1)).heap[B]? = some (.cells (msL m t1 s2).toArray 81 (0, 0)) := h1
  have h2 := h1'
  rw [msL_iop m t1 s2] at h2
  have h3 := setCells_heap (opL m.item.op t2) (w.setCells B 10 (opL m.op t1)) _ (opL m.item.op s2) _ rfl h2
  rw [← msL_iop m t1 t2, msL_iop_len hd] at h3
  exact ⟨h3, h1'⟩
set_option maxRecDepth 100000 in
set_option maxHeartbeats 6400000 in
theorem copyM_any (m : Ms0) (s1 s2 : Value) (w : World) (hd : m.item.data.length = 256) (hd1 : Rd w 1 s1 m.op.data.length (bV m.op.data)) (hd2 : Rd w 1 s2 m.item.op.data.length (bV m.item.op.data)) (hl1 : m.op.data.length ≤ 1000000) (hl2 : m.item.op.data.length ≤ 1000000) :
    Calls Try.prog 55 #[.agg (msL m s1 s2).toArray] w fun e w' => ∃ t1 t2, e = .returned (.agg (msL m t1 t2).toArray) ∧ w'.ownsRow w.heap.size 5 1 t1 m.op.data.length (bV m.op.data) ∧ w'.ownsRow w.heap.size 5 1 t2 m.item.op.data.length (bV m.item.op.data) ∧ Below w.heap.size w w' := by
  have HD1 := Lib.hid hd1
  have HD2 := Lib.hid hd2
  have HDA := Lib.hid hd
  obtain ⟨W1, hW1⟩ : ∃ W, (w.alloc (.cells (msL m s1 s2).toArray 81)).alloc (.cells Try.zeroCells81 81) = W := ⟨_, rfl⟩
  have HB1 : Hid (Below w.heap.size w W1) := Lib.hid (by rw [← hW1]; exact balloc (balloc (Below.refl _ _) _) _)
  have HZ1 : Hid (W1.heap.size = w.heap.size + 2) := Lib.hid (by rw [← hW1]; simp)
  have HX : Hid (∀ X, Below (w.heap.size + 2) W1.drew X → X.heap[w.heap.size]? = some (.cells (msL m s1 s2).toArray 81 (0, 0))) := Lib.hid (fun X hX => by
    refine (hX.block _ (by omega)).trans ?_
    show W1.heap[w.heap.size]? = _
    rw [← hW1]
    exact (Below.heap_alloc _ _ _ (by simp)).trans (heap_alloc_new w _))
  have HY : Hid (W1.heap[w.heap.size + 1]? = some (.cells Try.zeroCells81 81 (0, 0))) := Lib.hid (by rw [← hW1]; exact heap_twoM w _ _)
  have CC1 : Hid (∀ X, Below (w.heap.size + 2) W1.drew X → Calls Try.prog 21 #[.agg (opL m.op s1).toArray] X fun e w' => ∃ Y sl', e = .returned (.agg Y.toArray) ∧ Hid (Y = opL m.op sl') ∧ Y.length = 7 ∧ Y.toArray.all (·.oneCell') = true ∧ w'.ownsRow X.heap.size 5 1 sl' m.op.data.length (bV m.op.data) ∧ Below X.heap.size X w') := Lib.hid (fun X hX => (copyO_any m.op s1 X (HD1.out.below (HB1.out.drew.trans (hX.mono (by omega)))) (by omega)).mono (by
    rintro e w' ⟨sl', rfl, ho, hb⟩
    refine ⟨_, sl', rfl, Lib.hid rfl, rfl, ?_, ho, hb⟩
    obtain ⟨ao, cap, rfl, _⟩ := Rd.of_own ho
    exact opL_all))
  have CC2 : Hid (∀ X, Below (w.heap.size + 2) W1.drew X → Calls Try.prog 21 #[.agg (opL m.item.op s2).toArray] X fun e w' => ∃ Y sl', e = .returned (.agg Y.toArray) ∧ Hid (Y = opL m.item.op sl') ∧ Y.length = 7 ∧ Y.toArray.all (·.oneCell') = true ∧ w'.ownsRow X.heap.size 5 1 sl' m.item.op.data.length (bV m.item.op.data) ∧ Below X.heap.size X w') := Lib.hid (fun X hX => (copyO_any m.item.op s2 X (HD2.out.below (HB1.out.drew.trans (hX.mono (by omega)))) (by omega)).mono (by
    rintro e w' ⟨sl', rfl, ho, hb⟩
    refine ⟨_, sl', rfl, Lib.hid rfl, rfl, ?_, ho, hb⟩
    obtain ⟨ao, cap, rfl, _⟩ := Rd.of_own ho
    exact opL_all))
  have HRR : Hid (∀ X, Below (w.heap.size + 2) W1.drew X → X.rangeAt w.heap.size 10 (opL m.op s1) ∧ X.rangeAt w.heap.size 282 (opL m.item.op s2)) := Lib.hid (fun X hX => by
    have h := ms_at (m := m) (s1 := s1) (s2 := s2) (fun j u hj => by rw [Nat.zero_add]; exact cellIs (HX.out X hX) (by simpa using hj))
    exact ⟨h.r10, (it_at h.r22 HDA.out).r260⟩)
  obtain ⟨AL, hAL⟩ : ∃ L, msL m s1 s2 = L := ⟨_, rfl⟩
  rw [hAL] at hW1 ⊢
  have HAL := Lib.hid hAL
  clear hd hd1 hd2 hl1 hl2 hAL
  go_enter Try.func55, Try.ntmps55
  go_upto_region 1 with fail
  clear hW1
  refine wp_region_held_drew (S := fun _ => True) (by kernel_rfl) trivial (fun hHeld => ?_)
  have HR1 := (HRR.out _ (Below.refl _ _)).1
  have HR5 := (HRR.out _ (Below.refl _ _)).2
  have hb0 : Below (w.heap.size + 2) W1.drew W1.drew := Below.refl _ _
  refine wpAnyH_take (i := 0) (v := ?_) rfl (by kernel_rfl) (by kernel_rfl) (by kernel_rfl) (fun _ _ _ h => h) (Or.inl ⟨by rfl, ?_⟩) (by assumption) ?_
  rotate_left
  · (intro w hSw; (try dsimp only at hSw); simp only [List.getElem_toArray, List.getElem_cons_zero, List.getElem_cons_succ]; go_simp; first | done | with_reducible rfl)
  simp only [List.getElem_toArray, List.getElem_cons_zero, List.getElem_cons_succ, Act.put, List.setIfInBounds_toArray, List.set_cons_zero, List.set_cons_succ]
  refine wpAnyH_take (i := 3) (v := ?_) rfl (by kernel_rfl) (by kernel_rfl) (by kernel_rfl) (fun _ _ _ h => h) (Or.inl ⟨by rfl, ?_⟩) (by assumption) ?_
  rotate_left
  · (intro w hSw; (try dsimp only at hSw); simp only [List.getElem_toArray, List.getElem_cons_zero, List.getElem_cons_succ]; go_simp; first | done | with_reducible rfl)
  simp only [List.getElem_toArray, List.getElem_cons_zero, List.getElem_cons_succ, Act.put, List.setIfInBounds_toArray, List.set_cons_zero, List.set_cons_succ]
  refine wpAnyH_take (i := 4) (v := ?_) rfl (by kernel_rfl) (by kernel_rfl) (by kernel_rfl) (fun _ _ _ h => h) (Or.inl ⟨by rfl, ?_⟩) (by assumption) ?_
  rotate_left
  · (intro w hSw; (try dsimp only at hSw); simp only [List.getElem_toArray, List.getElem_cons_zero, List.getElem_cons_succ]; go_simp; first | done | with_reducible rfl)
  simp only [List.getElem_toArray, List.getElem_cons_zero, List.getElem_cons_succ, Act.put, List.setIfInBounds_toArray, List.set_cons_zero, List.set_cons_succ]
  refine wpAnyH_ready (rs := [1, 5]) (by kernel_rfl) (by simp) ?_
  refine AllReadyH.cons rfl (fun K hK => ?_) (AllReadyH.cons rfl (fun K hK => ?_) AllReadyH.nil)
  · skip
    simp only [List.getElem_toArray, List.getElem_cons_zero, List.getElem_cons_succ]
    rw [if_pos (by rfl)]
    refine wp_load_mid 26 _ rfl w.heap.size 10 rfl (opL m.op s1) _ HR1 Try.underlying26 rfl infoOp ?_
    refine hK.out _ _ trivial (fun hHeld => ?_)
    clear hK K
    simp only [Act.put, List.setIfInBounds_toArray, List.set_cons_zero, List.set_cons_succ]
    refine wpAnyH_ready (rs := [2, 5]) (by kernel_rfl) (by simp) ?_
    refine AllReadyH.cons rfl (fun K hK => ?_) (AllReadyH.cons rfl (fun K hK => ?_) AllReadyH.nil)
    · simp only [List.getElem_toArray, List.getElem_cons_zero, List.getElem_cons_succ]
      go_simp
      refine (CC1.out _ hb0).mono ?_
      rintro e w3 ⟨Y1, t1, rfl, hy1, hl1, hone1, ho1, hb3⟩
      dsimp only
      refine hK.out _ _ ?_ (fun hHeld => ?_)
      · exact trivial
      clear hK K
      try simp only [Act.put, List.setIfInBounds_toArray, List.set_cons_zero, List.set_cons_succ]
      replace hb3 := hb0.trans (hb3.mono (by show w.heap.size + 2 ≤ W1.heap.size; rw [HZ1.out]; omega))
      have hsz3 : w.heap.size + 2 ≤ w3.heap.size := by have := hb3.size; exact Nat.le_trans (by show w.heap.size + 2 ≤ W1.heap.size; rw [HZ1.out]; omega) this
      have HR5 := (HRR.out _ hb3).2
      refine wpAnyH_ready (rs := [5]) (by kernel_rfl) (by simp) ?_
      refine AllReadyH.cons rfl (fun K hK => ?_) AllReadyH.nil
      simp only [List.getElem_toArray, List.getElem_cons_zero, List.getElem_cons_succ]
      rw [if_pos (by rfl)]
      refine wp_load_mid 26 _ rfl w.heap.size 282 rfl (opL m.item.op s2) _ HR5 Try.underlying26 rfl infoOp ?_
      refine hK.out _ _ trivial (fun hHeld => ?_)
      clear hK K
      simp only [Act.put, List.setIfInBounds_toArray, List.set_cons_zero, List.set_cons_succ]
      refine wpAnyH_take (i := 7) (v := ?_) rfl (by kernel_rfl) (by kernel_rfl) (by kernel_rfl) (fun _ _ _ h => h) (Or.inl ⟨by rfl, ?_⟩) (by assumption) ?_
      rotate_left
      · (intro w hSw; (try dsimp only at hSw); simp only [List.getElem_toArray, List.getElem_cons_zero, List.getElem_cons_succ]; go_simp; first | done | with_reducible rfl)
      simp only [List.getElem_toArray, List.getElem_cons_zero, List.getElem_cons_succ, Act.put, List.setIfInBounds_toArray, List.set_cons_zero, List.set_cons_succ]
      refine wpAnyH_ready (rs := [6]) (by kernel_rfl) (by simp) ?_
      refine AllReadyH.cons rfl (fun K hK => ?_) AllReadyH.nil
      simp only [List.getElem_toArray, List.getElem_cons_zero, List.getElem_cons_succ]
      go_simp
      refine (CC2.out _ hb3).mono ?_
      rintro e w4 ⟨Y2, t2, rfl, hy2, hl2, hone2, ho2, hb4⟩
      dsimp only
      refine hK.out _ _ ?_ (fun hHeld => ?_)
      · exact trivial
      clear hK K
      try simp only [Act.put, List.setIfInBounds_toArray, List.set_cons_zero, List.set_cons_succ]
      have hx4 := HX.out w4 (hb3.trans (hb4.mono hsz3))
      obtain ⟨hx6, hx5⟩ := copyStores (t1 := t1) (t2 := t2) HDA.out hx4
      rw [← hy1.out, ← hy2.out] at hx6
      rw [← hy1.out] at hx5
      have hth1 : w4.there w.heap.size 10 Y1.toArray.size := there_mid (N := 290) hx4 (by rw [List.size_toArray]; exact msL_len HDA.out) (by rw [List.size_toArray, hl1]; omega)
      have hth2 : (w4.setCells w.heap.size 10 Y1).there w.heap.size 282 Y2.toArray.size := there_mid (N := 290) hx5 (by rw [List.size_toArray]; exact msL_len HDA.out) (by rw [List.size_toArray, hl2]; omega)
      have hi1 : (Try.prog.info? 26).map (·.size) = some Y1.toArray.size := by rw [List.size_toArray, hl1]; exact infoOp
      have hi2 : (Try.prog.info? 26).map (·.size) = some Y2.toArray.size := by rw [List.size_toArray, hl2]; exact infoOp
      refine wpAnyH_ready (rs := [8]) (by kernel_rfl) (by simp) ?_
      refine AllReadyH.cons rfl (fun K hK => ?_) AllReadyH.nil
      simp only [List.getElem_toArray, List.getElem_cons_zero, List.getElem_cons_succ]
      rw [if_pos (by rfl)]
      refine wp_store_mid 26 _ _ rfl w.heap.size 10 Y1.toArray rfl rfl hth1 hi1 hone1 ?_
      refine hK.out _ _ trivial (fun hHeld => ?_)
      clear hK K
      simp only [Act.put, List.setIfInBounds_toArray, List.set_cons_zero, List.set_cons_succ]
      refine wpAnyH_take (i := 9) (v := ?_) rfl (by kernel_rfl) (by kernel_rfl) (by kernel_rfl) (fun _ _ _ h => h) (Or.inl ⟨by rfl, ?_⟩) (by assumption) ?_
      rotate_left
      · (intro w hSw; (try dsimp only at hSw); simp only [List.getElem_toArray, List.getElem_cons_zero, List.getElem_cons_succ]; go_simp; first | done | with_reducible rfl)
      simp only [List.getElem_toArray, List.getElem_cons_zero, List.getElem_cons_succ, Act.put, List.setIfInBounds_toArray, List.set_cons_zero, List.set_cons_succ]
      refine wpAnyH_take (i := 10) (v := ?_) rfl (by kernel_rfl) (by kernel_rfl) (by kernel_rfl) (fun _ _ _ h => h) (Or.inl ⟨by rfl, ?_⟩) (by assumption) ?_
      rotate_left
      · (intro w hSw; (try dsimp only at hSw); simp only [List.getElem_toArray, List.getElem_cons_zero, List.getElem_cons_succ]; go_simp; first | done | with_reducible rfl)
      simp only [List.getElem_toArray, List.getElem_cons_zero, List.getElem_cons_succ, Act.put, List.setIfInBounds_toArray, List.set_cons_zero, List.set_cons_succ]
      refine wpAnyH_ready (rs := [11]) (by kernel_rfl) (by simp) ?_
      refine AllReadyH.cons rfl (fun K hK => ?_) AllReadyH.nil
      simp only [List.getElem_toArray, List.getElem_cons_zero, List.getElem_cons_succ]
      rw [if_pos (by rfl)]
      refine wp_store_mid 26 _ _ rfl w.heap.size 282 Y2.toArray rfl rfl hth2 hi2 hone2 ?_
      refine hK.out _ _ trivial (fun hHeld => ?_)
      clear hK K
      simp only [Act.put, List.setIfInBounds_toArray, List.set_cons_zero, List.set_cons_succ]
      refine wpAnyH_done (by kernel_rfl) ?_ _
      obtain ⟨CL, hCL, hcl, hco⟩ : ∃ L, msL m t1 t2 = L ∧ L.length = 290 ∧ L.toArray.all (·.oneCell') = true := ⟨_, rfl, msL_len HDA.out, by
        obtain ⟨_, _, rfl, _⟩ := Rd.of_own ho1
        obtain ⟨_, _, rfl, _⟩ := Rd.of_own ho2
        rw [← Array.all_toList]
        exact List.all_eq_true.2 (msL_one rfl rfl)⟩
      rw [hCL] at hx6
      have HCL := Lib.hid hCL
      have hd12 : W1.drew.heap.size = w.heap.size + 2 := HZ1.out
      have HO1 : Hid (((w4.setCells w.heap.size 10 Y1).setCells w.heap.size 282 Y2).ownsRow (w.heap.size + 2) 5 1 t1 m.op.data.length (bV m.op.data)) := Lib.hid (by
        rw [hd12] at ho1
        exact own_setCells (own_setCells (ownsRow_below ho1 hb4) (by omega)) (by omega))
      have HO2 : Hid (((w4.setCells w.heap.size 10 Y1).setCells w.heap.size 282 Y2).ownsRow (w.heap.size + 2) 5 1 t2 m.item.op.data.length (bV m.item.op.data)) := Lib.hid (own_setCells (own_setCells (ownsRow_base ho2 hsz3) (by omega)) (by omega))
      have HX6 := Lib.hid hx6
      have HBF : Hid (Below w.heap.size w ((w4.setCells w.heap.size 10 Y1).setCells w.heap.size 282 Y2)) := Lib.hid (belowSetC (Nat.le_refl _) _ _ _ (belowSetC (Nat.le_refl _) _ _ _ (HB1.out.drew.trans ((hb3.trans (hb4.mono hsz3)).mono (by omega)))))
      have HYF : Hid (((w4.setCells w.heap.size 10 Y1).setCells w.heap.size 282 Y2).heap[w.heap.size + 1]? = some (.cells Try.zeroCells81 81 (0, 0))) := Lib.hid (by
        rw [heapSetC _ _ _ _ _ (by omega), heapSetC _ _ _ _ _ (by omega), (hb3.trans (hb4.mono hsz3)).block _ (by omega)]
        exact HY.out)
      clear hth1 hth2 hx4 hx5 hx6 ho1 ho2 hi1 hi2 hb3 hb4 hsz3 hCL HR1 HR5 hHeld
      generalize (w4.setCells w.heap.size 10 Y1).setCells w.heap.size 282 Y2 = X at *
      have HRC : Hid (X.rangeAt w.heap.size 0 CL) := Lib.hid (fun j u hj => by
        rw [Nat.zero_add]
        exact cellIs HX6.out (by simpa using hj))
      have HTH : Hid (X.there (w.heap.size + 1) 0 290) := Lib.hid (there_of HYF.out zeroM)
      have HTH2 : Hid (X.there (w.heap.size + 1) 0 CL.toArray.size) := Lib.hid (there_mid HYF.out zeroM (by rw [List.size_toArray, hcl]; omega))
      have HIC : Hid ((Try.prog.info? 81).map (·.size) = some CL.length) := Lib.hid (by rw [hcl]; exact infoMs)
      have HIC2 : Hid ((Try.prog.info? 81).map (·.size) = some CL.toArray.size) := Lib.hid (by rw [List.size_toArray, hcl]; exact infoMs)
      have HCO := Lib.hid (And.intro hcl hco)
      have HO1' := Lib.hid (ownsRow_base (own_setCells (vs := CL) (o := 0) (b := w.heap.size + 1) HO1.out (by omega)) (show w.heap.size ≤ w.heap.size + 2 by omega))
      have HO2' := Lib.hid (ownsRow_base (own_setCells (vs := CL) (o := 0) (b := w.heap.size + 1) HO2.out (by omega)) (show w.heap.size ≤ w.heap.size + 2 by omega))
      have HBF2 := Lib.hid (belowSetC (b := w.heap.size + 1) (Nat.le_succ _) CL 0 _ HBF.out)
      clear hcl hco hy1 hy2 hl1 hl2 hone1 hone2
      go_wp2_with (first
        | (refine wpList_load_mid rfl 81 _ rfl w.heap.size 0 rfl CL _ HRC.out Try.underlying81 rfl HIC.out ?_)
        | (refine wpList_store_mid rfl 81 _ _ rfl (w.heap.size + 1) 0 CL.toArray rfl rfl HTH2.out HIC2.out HCO.out.2 ?_))
      exact bodyPost_ret (v := .agg CL.toArray) (resM rfl _ _ _ rfl HCO.out.1 HTH.out) rfl ⟨t1, t2, by rw [HCL.out], HO1'.out, HO2'.out, HBF2.out⟩
    · skip
      simp only [List.getElem_toArray, List.getElem_cons_zero, List.getElem_cons_succ]
      rw [if_pos (by rfl)]
      refine wp_load_mid 26 _ rfl w.heap.size 282 rfl (opL m.item.op s2) _ HR5 Try.underlying26 rfl infoOp ?_
      refine hK.out _ _ trivial (fun hHeld => ?_)
      clear hK K
      simp only [Act.put, List.setIfInBounds_toArray, List.set_cons_zero, List.set_cons_succ]
      refine wpAnyH_ready (rs := [2]) (by kernel_rfl) (by simp) ?_
      refine AllReadyH.cons rfl (fun K hK => ?_) AllReadyH.nil
      simp only [List.getElem_toArray, List.getElem_cons_zero, List.getElem_cons_succ]
      go_simp
      refine (CC1.out _ hb0).mono ?_
      rintro e w3 ⟨Y1, t1, rfl, hy1, hl1, hone1, ho1, hb3⟩
      dsimp only
      refine hK.out _ _ ?_ (fun hHeld => ?_)
      · exact trivial
      clear hK K
      try simp only [Act.put, List.setIfInBounds_toArray, List.set_cons_zero, List.set_cons_succ]
      replace hb3 := hb0.trans (hb3.mono (by show w.heap.size + 2 ≤ W1.heap.size; rw [HZ1.out]; omega))
      have hsz3 : w.heap.size + 2 ≤ w3.heap.size := by have := hb3.size; exact Nat.le_trans (by show w.heap.size + 2 ≤ W1.heap.size; rw [HZ1.out]; omega) this
      refine wpAnyH_take (i := 7) (v := ?_) rfl (by kernel_rfl) (by kernel_rfl) (by kernel_rfl) (fun _ _ _ h => h) (Or.inl ⟨by rfl, ?_⟩) (by assumption) ?_
      rotate_left
      · (intro w hSw; (try dsimp only at hSw); simp only [List.getElem_toArray, List.getElem_cons_zero, List.getElem_cons_succ]; go_simp; first | done | with_reducible rfl)
      simp only [List.getElem_toArray, List.getElem_cons_zero, List.getElem_cons_succ, Act.put, List.setIfInBounds_toArray, List.set_cons_zero, List.set_cons_succ]
      refine wpAnyH_ready (rs := [6]) (by kernel_rfl) (by simp) ?_
      refine AllReadyH.cons rfl (fun K hK => ?_) AllReadyH.nil
      simp only [List.getElem_toArray, List.getElem_cons_zero, List.getElem_cons_succ]
      go_simp
      refine (CC2.out _ hb3).mono ?_
      rintro e w4 ⟨Y2, t2, rfl, hy2, hl2, hone2, ho2, hb4⟩
      dsimp only
      refine hK.out _ _ ?_ (fun hHeld => ?_)
      · exact trivial
      clear hK K
      try simp only [Act.put, List.setIfInBounds_toArray, List.set_cons_zero, List.set_cons_succ]
      have hx4 := HX.out w4 (hb3.trans (hb4.mono hsz3))
      obtain ⟨hx6, hx5⟩ := copyStores (t1 := t1) (t2 := t2) HDA.out hx4
      rw [← hy1.out, ← hy2.out] at hx6
      rw [← hy1.out] at hx5
      have hth1 : w4.there w.heap.size 10 Y1.toArray.size := there_mid (N := 290) hx4 (by rw [List.size_toArray]; exact msL_len HDA.out) (by rw [List.size_toArray, hl1]; omega)
      have hth2 : (w4.setCells w.heap.size 10 Y1).there w.heap.size 282 Y2.toArray.size := there_mid (N := 290) hx5 (by rw [List.size_toArray]; exact msL_len HDA.out) (by rw [List.size_toArray, hl2]; omega)
      have hi1 : (Try.prog.info? 26).map (·.size) = some Y1.toArray.size := by rw [List.size_toArray, hl1]; exact infoOp
      have hi2 : (Try.prog.info? 26).map (·.size) = some Y2.toArray.size := by rw [List.size_toArray, hl2]; exact infoOp
      refine wpAnyH_ready (rs := [8]) (by kernel_rfl) (by simp) ?_
      refine AllReadyH.cons rfl (fun K hK => ?_) AllReadyH.nil
      simp only [List.getElem_toArray, List.getElem_cons_zero, List.getElem_cons_succ]
      rw [if_pos (by rfl)]
      refine wp_store_mid 26 _ _ rfl w.heap.size 10 Y1.toArray rfl rfl hth1 hi1 hone1 ?_
      refine hK.out _ _ trivial (fun hHeld => ?_)
      clear hK K
      simp only [Act.put, List.setIfInBounds_toArray, List.set_cons_zero, List.set_cons_succ]
      refine wpAnyH_take (i := 9) (v := ?_) rfl (by kernel_rfl) (by kernel_rfl) (by kernel_rfl) (fun _ _ _ h => h) (Or.inl ⟨by rfl, ?_⟩) (by assumption) ?_
      rotate_left
      · (intro w hSw; (try dsimp only at hSw); simp only [List.getElem_toArray, List.getElem_cons_zero, List.getElem_cons_succ]; go_simp; first | done | with_reducible rfl)
      simp only [List.getElem_toArray, List.getElem_cons_zero, List.getElem_cons_succ, Act.put, List.setIfInBounds_toArray, List.set_cons_zero, List.set_cons_succ]
      refine wpAnyH_take (i := 10) (v := ?_) rfl (by kernel_rfl) (by kernel_rfl) (by kernel_rfl) (fun _ _ _ h => h) (Or.inl ⟨by rfl, ?_⟩) (by assumption) ?_
      rotate_left
      · (intro w hSw; (try dsimp only at hSw); simp only [List.getElem_toArray, List.getElem_cons_zero, List.getElem_cons_succ]; go_simp; first | done | with_reducible rfl)
      simp only [List.getElem_toArray, List.getElem_cons_zero, List.getElem_cons_succ, Act.put, List.setIfInBounds_toArray, List.set_cons_zero, List.set_cons_succ]
      refine wpAnyH_ready (rs := [11]) (by kernel_rfl) (by simp) ?_
      refine AllReadyH.cons rfl (fun K hK => ?_) AllReadyH.nil
      simp only [List.getElem_toArray, List.getElem_cons_zero, List.getElem_cons_succ]
      rw [if_pos (by rfl)]
      refine wp_store_mid 26 _ _ rfl w.heap.size 282 Y2.toArray rfl rfl hth2 hi2 hone2 ?_
      refine hK.out _ _ trivial (fun hHeld => ?_)
      clear hK K
      simp only [Act.put, List.setIfInBounds_toArray, List.set_cons_zero, List.set_cons_succ]
      refine wpAnyH_done (by kernel_rfl) ?_ _
      obtain ⟨CL, hCL, hcl, hco⟩ : ∃ L, msL m t1 t2 = L ∧ L.length = 290 ∧ L.toArray.all (·.oneCell') = true := ⟨_, rfl, msL_len HDA.out, by
        obtain ⟨_, _, rfl, _⟩ := Rd.of_own ho1
        obtain ⟨_, _, rfl, _⟩ := Rd.of_own ho2
        rw [← Array.all_toList]
        exact List.all_eq_true.2 (msL_one rfl rfl)⟩
      rw [hCL] at hx6
      have HCL := Lib.hid hCL
      have hd12 : W1.drew.heap.size = w.heap.size + 2 := HZ1.out
      have HO1 : Hid (((w4.setCells w.heap.size 10 Y1).setCells w.heap.size 282 Y2).ownsRow (w.heap.size + 2) 5 1 t1 m.op.data.length (bV m.op.data)) := Lib.hid (by
        rw [hd12] at ho1
        exact own_setCells (own_setCells (ownsRow_below ho1 hb4) (by omega)) (by omega))
      have HO2 : Hid (((w4.setCells w.heap.size 10 Y1).setCells w.heap.size 282 Y2).ownsRow (w.heap.size + 2) 5 1 t2 m.item.op.data.length (bV m.item.op.data)) := Lib.hid (own_setCells (own_setCells (ownsRow_base ho2 hsz3) (by omega)) (by omega))
      have HX6 := Lib.hid hx6
      have HBF : Hid (Below w.heap.size w ((w4.setCells w.heap.size 10 Y1).setCells w.heap.size 282 Y2)) := Lib.hid (belowSetC (Nat.le_refl _) _ _ _ (belowSetC (Nat.le_refl _) _ _ _ (HB1.out.drew.trans ((hb3.trans (hb4.mono hsz3)).mono (by omega)))))
      have HYF : Hid (((w4.setCells w.heap.size 10 Y1).setCells w.heap.size 282 Y2).heap[w.heap.size + 1]? = some (.cells Try.zeroCells81 81 (0, 0))) := Lib.hid (by
        rw [heapSetC _ _ _ _ _ (by omega), heapSetC _ _ _ _ _ (by omega), (hb3.trans (hb4.mono hsz3)).block _ (by omega)]
        exact HY.out)
      clear hth1 hth2 hx4 hx5 hx6 ho1 ho2 hi1 hi2 hb3 hb4 hsz3 hCL HR1 HR5 hHeld
      generalize (w4.setCells w.heap.size 10 Y1).setCells w.heap.size 282 Y2 = X at *
      have HRC : Hid (X.rangeAt w.heap.size 0 CL) := Lib.hid (fun j u hj => by
        rw [Nat.zero_add]
        exact cellIs HX6.out (by simpa using hj))
      have HTH : Hid (X.there (w.heap.size + 1) 0 290) := Lib.hid (there_of HYF.out zeroM)
      have HTH2 : Hid (X.there (w.heap.size + 1) 0 CL.toArray.size) := Lib.hid (there_mid HYF.out zeroM (by rw [List.size_toArray, hcl]; omega))
      have HIC : Hid ((Try.prog.info? 81).map (·.size) = some CL.length) := Lib.hid (by rw [hcl]; exact infoMs)
      have HIC2 : Hid ((Try.prog.info? 81).map (·.size) = some CL.toArray.size) := Lib.hid (by rw [List.size_toArray, hcl]; exact infoMs)
      have HCO := Lib.hid (And.intro hcl hco)
      have HO1' := Lib.hid (ownsRow_base (own_setCells (vs := CL) (o := 0) (b := w.heap.size + 1) HO1.out (by omega)) (show w.heap.size ≤ w.heap.size + 2 by omega))
      have HO2' := Lib.hid (ownsRow_base (own_setCells (vs := CL) (o := 0) (b := w.heap.size + 1) HO2.out (by omega)) (show w.heap.size ≤ w.heap.size + 2 by omega))
      have HBF2 := Lib.hid (belowSetC (b := w.heap.size + 1) (Nat.le_succ _) CL 0 _ HBF.out)
      clear hcl hco hy1 hy2 hl1 hl2 hone1 hone2
      go_wp2_with (first
        | (refine wpList_load_mid rfl 81 _ rfl w.heap.size 0 rfl CL _ HRC.out Try.underlying81 rfl HIC.out ?_)
        | (refine wpList_store_mid rfl 81 _ _ rfl (w.heap.size + 1) 0 CL.toArray rfl rfl HTH2.out HIC2.out HCO.out.2 ?_))
      exact bodyPost_ret (v := .agg CL.toArray) (resM rfl _ _ _ rfl HCO.out.1 HTH.out) rfl ⟨t1, t2, by rw [HCL.out], HO1'.out, HO2'.out, HBF2.out⟩
  · skip
    simp only [List.getElem_toArray, List.getElem_cons_zero, List.getElem_cons_succ]
    rw [if_pos (by rfl)]
    refine wp_load_mid 26 _ rfl w.heap.size 282 rfl (opL m.item.op s2) _ HR5 Try.underlying26 rfl infoOp ?_
    refine hK.out _ _ trivial (fun hHeld => ?_)
    clear hK K
    simp only [Act.put, List.setIfInBounds_toArray, List.set_cons_zero, List.set_cons_succ]
    refine wpAnyH_ready (rs := [1]) (by kernel_rfl) (by simp) ?_
    refine AllReadyH.cons rfl (fun K hK => ?_) AllReadyH.nil
    simp only [List.getElem_toArray, List.getElem_cons_zero, List.getElem_cons_succ]
    rw [if_pos (by rfl)]
    refine wp_load_mid 26 _ rfl w.heap.size 10 rfl (opL m.op s1) _ HR1 Try.underlying26 rfl infoOp ?_
    refine hK.out _ _ trivial (fun hHeld => ?_)
    clear hK K
    simp only [Act.put, List.setIfInBounds_toArray, List.set_cons_zero, List.set_cons_succ]
    refine wpAnyH_ready (rs := [2]) (by kernel_rfl) (by simp) ?_
    refine AllReadyH.cons rfl (fun K hK => ?_) AllReadyH.nil
    simp only [List.getElem_toArray, List.getElem_cons_zero, List.getElem_cons_succ]
    go_simp
    refine (CC1.out _ hb0).mono ?_
    rintro e w3 ⟨Y1, t1, rfl, hy1, hl1, hone1, ho1, hb3⟩
    dsimp only
    refine hK.out _ _ ?_ (fun hHeld => ?_)
    · exact trivial
    clear hK K
    try simp only [Act.put, List.setIfInBounds_toArray, List.set_cons_zero, List.set_cons_succ]
    replace hb3 := hb0.trans (hb3.mono (by show w.heap.size + 2 ≤ W1.heap.size; rw [HZ1.out]; omega))
    have hsz3 : w.heap.size + 2 ≤ w3.heap.size := by have := hb3.size; exact Nat.le_trans (by show w.heap.size + 2 ≤ W1.heap.size; rw [HZ1.out]; omega) this
    refine wpAnyH_take (i := 7) (v := ?_) rfl (by kernel_rfl) (by kernel_rfl) (by kernel_rfl) (fun _ _ _ h => h) (Or.inl ⟨by rfl, ?_⟩) (by assumption) ?_
    rotate_left
    · (intro w hSw; (try dsimp only at hSw); simp only [List.getElem_toArray, List.getElem_cons_zero, List.getElem_cons_succ]; go_simp; first | done | with_reducible rfl)
    simp only [List.getElem_toArray, List.getElem_cons_zero, List.getElem_cons_succ, Act.put, List.setIfInBounds_toArray, List.set_cons_zero, List.set_cons_succ]
    refine wpAnyH_ready (rs := [6]) (by kernel_rfl) (by simp) ?_
    refine AllReadyH.cons rfl (fun K hK => ?_) AllReadyH.nil
    simp only [List.getElem_toArray, List.getElem_cons_zero, List.getElem_cons_succ]
    go_simp
    refine (CC2.out _ hb3).mono ?_
    rintro e w4 ⟨Y2, t2, rfl, hy2, hl2, hone2, ho2, hb4⟩
    dsimp only
    refine hK.out _ _ ?_ (fun hHeld => ?_)
    · exact trivial
    clear hK K
    try simp only [Act.put, List.setIfInBounds_toArray, List.set_cons_zero, List.set_cons_succ]
    have hx4 := HX.out w4 (hb3.trans (hb4.mono hsz3))
    obtain ⟨hx6, hx5⟩ := copyStores (t1 := t1) (t2 := t2) HDA.out hx4
    rw [← hy1.out, ← hy2.out] at hx6
    rw [← hy1.out] at hx5
    have hth1 : w4.there w.heap.size 10 Y1.toArray.size := there_mid (N := 290) hx4 (by rw [List.size_toArray]; exact msL_len HDA.out) (by rw [List.size_toArray, hl1]; omega)
    have hth2 : (w4.setCells w.heap.size 10 Y1).there w.heap.size 282 Y2.toArray.size := there_mid (N := 290) hx5 (by rw [List.size_toArray]; exact msL_len HDA.out) (by rw [List.size_toArray, hl2]; omega)
    have hi1 : (Try.prog.info? 26).map (·.size) = some Y1.toArray.size := by rw [List.size_toArray, hl1]; exact infoOp
    have hi2 : (Try.prog.info? 26).map (·.size) = some Y2.toArray.size := by rw [List.size_toArray, hl2]; exact infoOp
    refine wpAnyH_ready (rs := [8]) (by kernel_rfl) (by simp) ?_
    refine AllReadyH.cons rfl (fun K hK => ?_) AllReadyH.nil
    simp only [List.getElem_toArray, List.getElem_cons_zero, List.getElem_cons_succ]
    rw [if_pos (by rfl)]
    refine wp_store_mid 26 _ _ rfl w.heap.size 10 Y1.toArray rfl rfl hth1 hi1 hone1 ?_
    refine hK.out _ _ trivial (fun hHeld => ?_)
    clear hK K
    simp only [Act.put, List.setIfInBounds_toArray, List.set_cons_zero, List.set_cons_succ]
    refine wpAnyH_take (i := 9) (v := ?_) rfl (by kernel_rfl) (by kernel_rfl) (by kernel_rfl) (fun _ _ _ h => h) (Or.inl ⟨by rfl, ?_⟩) (by assumption) ?_
    rotate_left
    · (intro w hSw; (try dsimp only at hSw); simp only [List.getElem_toArray, List.getElem_cons_zero, List.getElem_cons_succ]; go_simp; first | done | with_reducible rfl)
    simp only [List.getElem_toArray, List.getElem_cons_zero, List.getElem_cons_succ, Act.put, List.setIfInBounds_toArray, List.set_cons_zero, List.set_cons_succ]
    refine wpAnyH_take (i := 10) (v := ?_) rfl (by kernel_rfl) (by kernel_rfl) (by kernel_rfl) (fun _ _ _ h => h) (Or.inl ⟨by rfl, ?_⟩) (by assumption) ?_
    rotate_left
    · (intro w hSw; (try dsimp only at hSw); simp only [List.getElem_toArray, List.getElem_cons_zero, List.getElem_cons_succ]; go_simp; first | done | with_reducible rfl)
    simp only [List.getElem_toArray, List.getElem_cons_zero, List.getElem_cons_succ, Act.put, List.setIfInBounds_toArray, List.set_cons_zero, List.set_cons_succ]
    refine wpAnyH_ready (rs := [11]) (by kernel_rfl) (by simp) ?_
    refine AllReadyH.cons rfl (fun K hK => ?_) AllReadyH.nil
    simp only [List.getElem_toArray, List.getElem_cons_zero, List.getElem_cons_succ]
    rw [if_pos (by rfl)]
    refine wp_store_mid 26 _ _ rfl w.heap.size 282 Y2.toArray rfl rfl hth2 hi2 hone2 ?_
    refine hK.out _ _ trivial (fun hHeld => ?_)
    clear hK K
    simp only [Act.put, List.setIfInBounds_toArray, List.set_cons_zero, List.set_cons_succ]
    refine wpAnyH_done (by kernel_rfl) ?_ _
    obtain ⟨CL, hCL, hcl, hco⟩ : ∃ L, msL m t1 t2 = L ∧ L.length = 290 ∧ L.toArray.all (·.oneCell') = true := ⟨_, rfl, msL_len HDA.out, by
      obtain ⟨_, _, rfl, _⟩ := Rd.of_own ho1
      obtain ⟨_, _, rfl, _⟩ := Rd.of_own ho2
      rw [← Array.all_toList]
      exact List.all_eq_true.2 (msL_one rfl rfl)⟩
    rw [hCL] at hx6
    have HCL := Lib.hid hCL
    have hd12 : W1.drew.heap.size = w.heap.size + 2 := HZ1.out
    have HO1 : Hid (((w4.setCells w.heap.size 10 Y1).setCells w.heap.size 282 Y2).ownsRow (w.heap.size + 2) 5 1 t1 m.op.data.length (bV m.op.data)) := Lib.hid (by
      rw [hd12] at ho1
      exact own_setCells (own_setCells (ownsRow_below ho1 hb4) (by omega)) (by omega))
    have HO2 : Hid (((w4.setCells w.heap.size 10 Y1).setCells w.heap.size 282 Y2).ownsRow (w.heap.size + 2) 5 1 t2 m.item.op.data.length (bV m.item.op.data)) := Lib.hid (own_setCells (own_setCells (ownsRow_base ho2 hsz3) (by omega)) (by omega))
    have HX6 := Lib.hid hx6
    have HBF : Hid (Below w.heap.size w ((w4.setCells w.heap.size 10 Y1).setCells w.heap.size 282 Y2)) := Lib.hid (belowSetC (Nat.le_refl _) _ _ _ (belowSetC (Nat.le_refl _) _ _ _ (HB1.out.drew.trans ((hb3.trans (hb4.mono hsz3)).mono (by omega)))))
    have HYF : Hid (((w4.setCells w.heap.size 10 Y1).setCells w.heap.size 282 Y2).heap[w.heap.size + 1]? = some (.cells Try.zeroCells81 81 (0, 0))) := Lib.hid (by
      rw [heapSetC _ _ _ _ _ (by omega), heapSetC _ _ _ _ _ (by omega), (hb3.trans (hb4.mono hsz3)).block _ (by omega)]
      exact HY.out)
    clear hth1 hth2 hx4 hx5 hx6 ho1 ho2 hi1 hi2 hb3 hb4 hsz3 hCL HR1 HR5 hHeld
    generalize (w4.setCells w.heap.size 10 Y1).setCells w.heap.size 282 Y2 = X at *
    have HRC : Hid (X.rangeAt w.heap.size 0 CL) := Lib.hid (fun j u hj => by
      rw [Nat.zero_add]
      exact cellIs HX6.out (by simpa using hj))
    have HTH : Hid (X.there (w.heap.size + 1) 0 290) := Lib.hid (there_of HYF.out zeroM)
    have HTH2 : Hid (X.there (w.heap.size + 1) 0 CL.toArray.size) := Lib.hid (there_mid HYF.out zeroM (by rw [List.size_toArray, hcl]; omega))
    have HIC : Hid ((Try.prog.info? 81).map (·.size) = some CL.length) := Lib.hid (by rw [hcl]; exact infoMs)
    have HIC2 : Hid ((Try.prog.info? 81).map (·.size) = some CL.toArray.size) := Lib.hid (by rw [List.size_toArray, hcl]; exact infoMs)
    have HCO := Lib.hid (And.intro hcl hco)
    have HO1' := Lib.hid (ownsRow_base (own_setCells (vs := CL) (o := 0) (b := w.heap.size + 1) HO1.out (by omega)) (show w.heap.size ≤ w.heap.size + 2 by omega))
    have HO2' := Lib.hid (ownsRow_base (own_setCells (vs := CL) (o := 0) (b := w.heap.size + 1) HO2.out (by omega)) (show w.heap.size ≤ w.heap.size + 2 by omega))
    have HBF2 := Lib.hid (belowSetC (b := w.heap.size + 1) (Nat.le_succ _) CL 0 _ HBF.out)
    clear hcl hco hy1 hy2 hl1 hl2 hone1 hone2
    go_wp2_with (first
      | (refine wpList_load_mid rfl 81 _ rfl w.heap.size 0 rfl CL _ HRC.out Try.underlying81 rfl HIC.out ?_)
      | (refine wpList_store_mid rfl 81 _ _ rfl (w.heap.size + 1) 0 CL.toArray rfl rfl HTH2.out HIC2.out HCO.out.2 ?_))
    exact bodyPost_ret (v := .agg CL.toArray) (resM rfl _ _ _ rfl HCO.out.1 HTH.out) rfl ⟨t1, t2, by rw [HCL.out], HO1'.out, HO2'.out, HBF2.out⟩
end Go.Proofs.Ytgkelbdgdhkeoaa
