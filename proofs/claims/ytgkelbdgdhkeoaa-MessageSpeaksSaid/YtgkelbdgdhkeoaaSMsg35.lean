/- The reference's Pack of a message, walked. (Printed by mk35.py.) -/
import Derived.Deep.RegionHeld3
import Derived.Test.YtgkelbdgdhkeoaaSMsg5
import Derived.Test.YtgkelbdgdhkeoaaSMsg21
import Derived.Test.YtgkelbdgdhkeoaaSMsg25
import Derived.Test.YtgkelbdgdhkeoaaSMsg26
import Derived.Test.YtgkelbdgdhkeoaaSMsg28
import Derived.Test.YtgkelbdgdhkeoaaSMsg19
import Derived.Test.YtgkelbdgdhkeoaaSMsg17
import Derived.Test.YtgkelbdgdhkeoaaSMsg40
namespace Go.Proofs.Ytgkelbdgdhkeoaa
open Go.RowKit
set_option linter.unusedVariables false
set_option linter.unusedSimpArgs false
open Wire Cmd
def aR (h : Bool) (l : List UInt8) : List UInt8 := if h then l else []
theorem bsM_R (m : Ms0) : ((((((((hdB m ++ aR (hasL (nmM m.k) 116) (lcu 116 m)) ++ aR (hasL (nmM m.k) 108) (lcu 108 m)) ++ aR (hasL (nmM m.k) 110) (lcu 110 m)) ++ aR (hasL (nmM m.k) 115) (lcu 115 m)) ++ aR (hasL (nmM m.k) 102) (lcu 102 m)) ++ aR (hasL (nmM m.k) 109) (lcu 109 m)) ++ aR (hasL (nmM m.k) 111) (lcu 111 m)) ++ aR (hasL (nmM m.k) 98) (lcu 98 m)) ++ aR (hasL (nmM m.k) 105) (lcu 105 m) = bsM m := by
 have e : bsM m = hdB m ++ (nmM m.k).flatMap fun c => lcu c m := rfl
 rw [e]
 rcases nmM_cases m.k with h | h | h | h | h | h | h | h | h | h <;> rw [h] <;> simp [aR, hasL]
theorem low_one {n : Nat} (h : n < 256) : bV (low n 1) = [Value.int .u8 (n : Int)] := by
 have e : low n 1 = [UInt8.ofNat (n % 256)] := rfl
 rw [e]
 show [Value.int .u8 ((UInt8.ofNat (n % 256)).toNat : Int)] = _
 have : (UInt8.ofNat (n % 256)).toNat = n := by simp; omega
 rw [this]
theorem aR_len {h : Bool} {l : List UInt8} {n : Nat} (hl : l.length ≤ n) : (aR h l).length ≤ n := by unfold aR; split; exact hl; exact Nat.zero_le _
/-- A state's box stays where a row of bytes grows. -/
theorem qkeep {W W' : World} {Q B n : Nat} {v : Value} {xs : List Value} {cs : Array Value} {f : Nat × Nat} (ho : W.ownsRow B 5 1 v n xs) (hg : W.grownBy W' v.ownBlock) (h : W.heap[Q]? = some (.cells cs 71 f)) : W'.heap[Q]? = some (.cells cs 71 f) :=
 (hg.block Q (Array.getElem?_eq_some_iff.1 h).1 (fun e => by
  obtain ⟨cs', f', h'⟩ := own_tag ho Q (by unfold ob; rw [Option.mem_toList]; exact e.symm)
  rw [h] at h'
  cases h')).trans h
set_option maxRecDepth 100000 in
set_option maxHeartbeats 12800000 in
theorem rpackM_any (m : Ms0) (ok : m.Ok) (hm : mayM m = true) (s1 s2 : Value) (w : World) (hd1 : Rd w 1 s1 m.op.data.length (bV m.op.data)) (hd2 : Rd w 1 s2 m.item.op.data.length (bV m.item.op.data)) :
  Calls Try.prog 79 #[.agg (msL m s1 s2).toArray] w fun e w' => ∃ v, e = .returned v ∧ w'.ownsRow w.heap.size 5 1 v (bsM m).length (bV (bsM m)) ∧ Below w.heap.size w w' := by
 have hk1 := (mayM_parts hm).2.1
 have hk2 := (mayM_parts hm).2.2.1
 have HKP := Lib.hid (fun (c : UInt8) => kept_of (m := m) hm (c := c))
 have HSM := Lib.hid (mayM_small hm)
 have HOB := Lib.hid (opB_small hm)
 have HOK := Lib.hid ok
 have HEQ := Lib.hid (bsM_R m)
 have HLB := Lib.hid (fun (c : UInt8) (hc : nine c) => lcu_len (m := m) hc ok.item.data (opB_small hm).1 (opB_small hm).2)
 obtain ⟨AL, hAL⟩ : ∃ L, msL m s1 s2 = L := ⟨_, rfl⟩
 obtain ⟨W1, hW1⟩ : ∃ W, w.alloc (.cells AL.toArray 81) = W := ⟨_, rfl⟩
 have HB1 : Hid (Below w.heap.size w W1) := Lib.hid (by rw [← hW1]; exact balloc (Below.refl _ _) _)
 have HZ1 : Hid (W1.heap.size = w.heap.size + 1) := Lib.hid (by rw [← hW1]; simp)
 have HX1 : Hid (W1.heap[w.heap.size]? = some (.cells AL.toArray 81 (0, 0))) := Lib.hid (by rw [← hW1]; exact heap_alloc_new w _)
 have HMA : Hid (∀ X : World, Below (w.heap.size + 1) W1 X → MsAt X w.heap.size m s1 s2) := Lib.hid (fun X hX => ms_at (fun j u hj => by
  rw [Nat.zero_add]
  rw [hAL] at hj
  exact cellIs ((hX.block _ (Nat.lt_succ_self _)).trans HX1.out) (by simpa using hj)))
 have HD1 := Lib.hid hd1
 have HD2 := Lib.hid hd2
 have HKE : Hid (toU m.k < 256 ∧ m.k = ((toU m.k : Nat) : Int)) := Lib.hid (by
  have h := toU_of (n := m.k) (by omega) (by omega)
  exact ⟨by omega, h.symm⟩)
 have hwk : IntKind.u8.wrap m.k = m.k := u8_small (by omega) (by omega)
 have CH : Hid (∀ (c : UInt8) (X : World), Calls Try.prog 119 #[.int .i64 m.k, .int .u8 (c.toNat : Int)] X fun e w' => e = .returned (.bool (hasL (nmM m.k) c)) ∧ X = w') := Lib.hid (fun c X => hasM_any m.k c X)
 rw [hAL]
 clear hAL hd1 hd2 ok hm
 have HSS : Hid (∀ X, Below (w.heap.size + 1) W1 X → (X.cell? ⟨w.heap.size, 0, none⟩ = some (.int .i64 m.k) ∧ X.cell? ⟨w.heap.size, 1, none⟩ = some (.int .u64 (m.epoch : Int))) ∧ Below (w.heap.size + 1) W1 X) := Lib.hid (fun X hX => ⟨⟨(HMA.out X hX).c0, (HMA.out X hX).c1⟩, hX⟩)
 have HLW := Lib.hid (fun (W : World) => rlow_any m.epoch 8 W HOK.out.epoch (by omega))
 have HLE : Hid (low (toU m.k) 1 ++ low m.epoch 8 = hdB m) := Lib.hid rfl
 have HBU : Hid (∀ X, Below (w.heap.size + 1) W1 X → PkW (w.heap.size + 1) W1 (.slice (some ⟨X.heap.size, 0, none⟩) 1 1) (low (toU m.k) 1) (X.alloc (.cells #[.int .u8 m.k] 5))) := Lib.hid (fun X hX => by
  have hs : w.heap.size + 1 ≤ X.heap.size := by have := hX.size; rw [HZ1.out] at this; exact this
  refine ⟨?_, hX.alloc hs _, by simp; omega⟩
  have h := own_new X (w.heap.size + 1) hs 5 [.int .u8 m.k] 1 rfl
  have e : bV (low (toU m.k) 1) = [.int .u8 m.k] := by rw [low_one HKE.out.1, ← HKE.out.2]
  rw [low_len, e]
  exact h)
 clear hk1 hk2
 go_enter Try.func79, Try.ntmps79
 go_upto_region 1 with fail
 clear hW1
 go_cut [3] (fun v wx => ∃ (W : World) (v' : Value), W = wx ∧ v' = v ∧ PkW (w.heap.size + 1) W1 v' (hdB m) W)
 case first =>
  refine wp_region_held_drew (S := fun X => (X.cell? ⟨w.heap.size, 0, none⟩ = some (.int .i64 m.k) ∧ X.cell? ⟨w.heap.size, 1, none⟩ = some (.int .u64 (m.epoch : Int))) ∧ Below (w.heap.size + 1) W1 X) (by kernel_rfl) (HSS.out _ (Below.refl _ _).drew) (fun hHeld => ?_)
  refine wpAnyH_take (i := 0) (v := ?_) rfl (by kernel_rfl) (by kernel_rfl) (by kernel_rfl) (fun _ _ _ h => h) (Or.inl ⟨by rfl, ?_⟩) (by assumption) ?_
  rotate_left
  ·(intro w hSw; (try dsimp only at hSw); simp only [List.getElem_toArray, List.getElem_cons_zero, List.getElem_cons_succ]; go_simp; first | done | with_reducible rfl)
  simp only [List.getElem_toArray, List.getElem_cons_zero, List.getElem_cons_succ, Act.put, List.setIfInBounds_toArray, List.set_cons_zero, List.set_cons_succ]
  refine wpAnyH_take (i := 1) (v := ?_) rfl (by kernel_rfl) (by kernel_rfl) (by kernel_rfl) (fun _ _ _ h => h) (Or.inl ⟨by rfl, ?_⟩) (by assumption) ?_
  rotate_left
  ·(intro w hSw; (try dsimp only at hSw); simp only [List.getElem_toArray, List.getElem_cons_zero, List.getElem_cons_succ]; go_simp; first | done | with_reducible rfl)
  simp only [List.getElem_toArray, List.getElem_cons_zero, List.getElem_cons_succ, Act.put, List.setIfInBounds_toArray, List.set_cons_zero, List.set_cons_succ]
  refine wpAnyH_take (i := 2) (v := ?_) rfl (by kernel_rfl) (by kernel_rfl) (by kernel_rfl) (fun _ _ _ h => h) (Or.inl ⟨by rfl, ?_⟩) (by assumption) ?_
  rotate_left
  ·(intro w hSw; (try dsimp only at hSw); simp only [List.getElem_toArray, List.getElem_cons_zero, List.getElem_cons_succ]; go_simp; first | done | with_reducible rfl)
  simp only [List.getElem_toArray, List.getElem_cons_zero, List.getElem_cons_succ, Act.put, List.setIfInBounds_toArray, List.set_cons_zero, List.set_cons_succ]
  refine wpAnyH_take (i := 4) (v := ?_) rfl (by kernel_rfl) (by kernel_rfl) (by kernel_rfl) (fun _ _ _ h => h) (Or.inl ⟨by rfl, ?_⟩) (by assumption) ?_
  rotate_left
  ·(intro w hSw; (try dsimp only at hSw); simp only [List.getElem_toArray, List.getElem_cons_zero, List.getElem_cons_succ]; go_simp; first | done | with_reducible rfl)
  simp only [List.getElem_toArray, List.getElem_cons_zero, List.getElem_cons_succ, Act.put, List.setIfInBounds_toArray, List.set_cons_zero, List.set_cons_succ]
  refine wpAnyH_take (i := 5) (v := ?_) rfl (by kernel_rfl) (by kernel_rfl) (by kernel_rfl) (fun _ _ _ h => h) (Or.inl ⟨by rfl, ?_⟩) (by assumption) ?_
  rotate_left
  ·(intro w hSw; (try dsimp only at hSw); simp only [List.getElem_toArray, List.getElem_cons_zero, List.getElem_cons_succ]; go_simp; first | done | with_reducible rfl)
  simp only [List.getElem_toArray, List.getElem_cons_zero, List.getElem_cons_succ, Act.put, List.setIfInBounds_toArray, List.set_cons_zero, List.set_cons_succ]
  refine wpAnyH_ready (rs := [3, 6]) (by kernel_rfl) (by simp) ?_
  refine AllReadyH.cons rfl (fun K hK => ?_) (AllReadyH.cons rfl (fun K hK => ?_) (AllReadyH.nil))
  ·simp only [List.getElem_toArray, List.getElem_cons_zero, List.getElem_cons_succ]
   go_simp
   refine hK.out _ _ ?_ (fun hHeld => ?_)
   ·exact HSS.out _ (HBU.out _ hHeld.2).below
   clear hK K
   try simp only [Act.put, List.setIfInBounds_toArray, List.set_cons_zero, List.set_cons_succ]
   have HP1 := Lib.hid (HBU.out _ (Below.refl _ W1).drew)
   refine wpAnyH_ready (rs := [6]) (by kernel_rfl) (by simp) ?_
   refine AllReadyH.cons rfl (fun K hK => ?_) AllReadyH.nil
   simp only [List.getElem_toArray, List.getElem_cons_zero, List.getElem_cons_succ]
   go_simp
   refine (HLW.out _).mono ?_
   rintro e w3 ⟨v3, rfl, ho3, hb3⟩
   dsimp only
   refine hK.out _ _ ?_ (fun hHeld => ?_)
   ·exact HSS.out _ (HP1.out.mono hb3).below
   clear hK K
   try simp only [Act.put, List.setIfInBounds_toArray, List.set_cons_zero, List.set_cons_succ]
   have HP3 := HP1.out.mono hb3
   refine wpAnyH_ready (rs := [7]) (by kernel_rfl) (by simp) ?_
   refine AllReadyH.cons rfl (fun K hK => ?_) AllReadyH.nil
   simp only [List.getElem_toArray, List.getElem_cons_zero, List.getElem_cons_succ]
   rw [if_pos (by rfl)]
   refine wp_apps _ _ 24 rfl (w.heap.size + 1) 5 _ 1 1 Try.underlying24 infoByte rfl (by decide) (by decide) _ _ _ (by rfl) HP3.own _ 8 _ (by rfl) (Rd.of_own ho3) (bV_one _) (by rw [low_len]; omega) HP3.sz ?_
   intro v5 w5 ho5 hb5 hg5 hs5 hn5
   refine hK.out _ _ ?_ (fun hHeld => ?_)
   ·exact HSS.out _ (HP3.below.trans hb5)
   clear hK K
   try simp only [Act.put, List.setIfInBounds_toArray, List.set_cons_zero, List.set_cons_succ]
   refine wpAnyH_take (i := 8) (v := ?_) rfl (by kernel_rfl) (by kernel_rfl) (by kernel_rfl) (fun _ _ _ h => h) (Or.inl ⟨by rfl, ?_⟩) (by assumption) ?_
   rotate_left
   ·(intro w hSw; (try dsimp only at hSw); simp only [List.getElem_toArray, List.getElem_cons_zero, List.getElem_cons_succ]; go_simp; first | done | with_reducible rfl)
   simp only [List.getElem_toArray, List.getElem_cons_zero, List.getElem_cons_succ, Act.put, List.setIfInBounds_toArray, List.set_cons_zero, List.set_cons_succ]
   refine wpAnyH_done (by kernel_rfl) ?_ _
   have HP5 := Lib.hid (HP3.app ho5 (low_len _ _) hb5)
   rw [HLE.out] at HP5
   clear hHeld ho3 hb3 HP3 ho5 hb5 hg5 hs5 hn5
   go_wp2_with fail
   go_meet
   exact ⟨_, _, rfl, rfl, HP5.out⟩
  ·simp only [List.getElem_toArray, List.getElem_cons_zero, List.getElem_cons_succ]
   go_simp
   refine (HLW.out _).mono ?_
   rintro e w3 ⟨v3, rfl, ho3, hb3⟩
   dsimp only
   refine hK.out _ _ ?_ (fun hHeld => ?_)
   ·exact HSS.out _ (hHeld.2.trans (hb3.mono (by show w.heap.size + 1 ≤ W1.heap.size; rw [HZ1.out]; exact Nat.le_refl _)))
   clear hK K
   try simp only [Act.put, List.setIfInBounds_toArray, List.set_cons_zero, List.set_cons_succ]
   have HB3 := hHeld.2
   refine wpAnyH_ready (rs := [3]) (by kernel_rfl) (by simp) ?_
   refine AllReadyH.cons rfl (fun K hK => ?_) AllReadyH.nil
   simp only [List.getElem_toArray, List.getElem_cons_zero, List.getElem_cons_succ]
   go_simp
   refine hK.out _ _ ?_ (fun hHeld => ?_)
   ·exact HSS.out _ (HBU.out _ HB3).below
   clear hK K
   try simp only [Act.put, List.setIfInBounds_toArray, List.set_cons_zero, List.set_cons_succ]
   have HP3 := HBU.out _ HB3
   refine wpAnyH_ready (rs := [7]) (by kernel_rfl) (by simp) ?_
   refine AllReadyH.cons rfl (fun K hK => ?_) AllReadyH.nil
   simp only [List.getElem_toArray, List.getElem_cons_zero, List.getElem_cons_succ]
   rw [if_pos (by rfl)]
   refine wp_apps _ _ 24 rfl (w.heap.size + 1) 5 _ 1 1 Try.underlying24 infoByte rfl (by decide) (by decide) _ _ _ (by rfl) HP3.own _ 8 _ (by rfl) ((Rd.of_own ho3).below (balloc (Below.refl _ _) _)) (bV_one _) (by rw [low_len]; omega) HP3.sz ?_
   intro v5 w5 ho5 hb5 hg5 hs5 hn5
   refine hK.out _ _ ?_ (fun hHeld => ?_)
   ·exact HSS.out _ (HP3.below.trans hb5)
   clear hK K
   try simp only [Act.put, List.setIfInBounds_toArray, List.set_cons_zero, List.set_cons_succ]
   refine wpAnyH_take (i := 8) (v := ?_) rfl (by kernel_rfl) (by kernel_rfl) (by kernel_rfl) (fun _ _ _ h => h) (Or.inl ⟨by rfl, ?_⟩) (by assumption) ?_
   rotate_left
   ·(intro w hSw; (try dsimp only at hSw); simp only [List.getElem_toArray, List.getElem_cons_zero, List.getElem_cons_succ]; go_simp; first | done | with_reducible rfl)
   simp only [List.getElem_toArray, List.getElem_cons_zero, List.getElem_cons_succ, Act.put, List.setIfInBounds_toArray, List.set_cons_zero, List.set_cons_succ]
   refine wpAnyH_done (by kernel_rfl) ?_ _
   have HP5 := Lib.hid (HP3.app ho5 (low_len _ _) hb5)
   rw [HLE.out] at HP5
   clear hHeld ho3 hb3 HP3 ho5 hb5 hg5 hs5 hn5 HB3
   go_wp2_with fail
   go_meet
   exact ⟨_, _, rfl, rfl, HP5.out⟩
 case rest =>
 obtain ⟨W2, v2, rfl, rfl, hp2⟩ := hcut
 have HP := Lib.hid hp2
 clear hp2 hwk HLW HBU
 obtain ⟨A0, hA0⟩ : ∃ A, hdB m = A := ⟨_, rfl⟩
 have HN : Hid (A0.length ≤ 9) := Lib.hid (by rw [← hA0]; show (low (toU m.k) 1 ++ low m.epoch 8).length ≤ 9; rw [List.length_append, low_len, low_len]; exact Nat.le_refl _)
 rw [hA0] at HP HEQ
 clear hA0 HLE HSS
 obtain ⟨SL, hSL, hsl, hso⟩ : ∃ L, stL m.st = L ∧ L.length = 6 ∧ L.toArray.all (·.oneCell') = true := ⟨_, rfl, rfl, by simp [stL, Value.oneCell']⟩
 have HSL := Lib.hid hSL
 have hst : (storeCells ⟨W2.heap.size, 0, none⟩ SL).run Try.prog ((W2.alloc (.cells #[.int .u64 0, .int .u64 0, .int .u64 0, .int .u64 0, .int .u64 0, .bool false] 71)).drew) = .ok () ((W2.alloc (.cells SL.toArray 71)).drew) :=
  run_storeNew (P := Try.prog) W2.drew 71 #[.int .u64 0, .int .u64 0, .int .u64 0, .int .u64 0, .int .u64 0, .bool false] SL.toArray (by simp [hsl]) (by
   have h := Array.all_eq_true_iff_forall_mem.1 hso
   intro u hu
   exact h u (by simpa using hu))
 have hm2 := HMA.out W2.drew HP.out.below.drew
 have k2 : W2.drew.cell? ⟨w.heap.size, 0, none⟩ = some (.int .i64 m.k) := hm2.c0
 have hr2 : W2.drew.rangeAt w.heap.size 2 SL := by rw [← HSL.out]; exact hm2.r2
 have hiS : (Try.prog.info? 71).map (·.size) = some SL.length := by rw [hsl]; exact infoSt
 have HS2 : Hid (∀ X, Below (w.heap.size + 1) W1 X → X.rangeAt w.heap.size 2 SL ∧ X.cell? ⟨w.heap.size, 0, none⟩ = some (.int .i64 m.k)) := Lib.hid (fun X hX => ⟨by rw [← HSL.out]; exact (HMA.out X hX).r2, (HMA.out X hX).c0⟩)
 have HIS := Lib.hid hiS
 clear hm2 hSL hso hiS
 go_upto_region 2 with fail
 refine wp_region_held_drew (S := fun X => X.rangeAt w.heap.size 2 SL ∧ X.cell? ⟨w.heap.size, 0, none⟩ = some (.int .i64 m.k)) (by kernel_rfl) ⟨hr2, k2⟩ (fun hHeld => ?_)
 clear hr2 k2
 refine wpAnyH_take (i := 0) (v := ?_) rfl (by kernel_rfl) (by kernel_rfl) (by kernel_rfl) (fun _ _ _ h => h) (Or.inl ⟨by rfl, ?_⟩) (by assumption) ?_
 rotate_left
 ·(intro w hSw; (try dsimp only at hSw); simp only [List.getElem_toArray, List.getElem_cons_zero, List.getElem_cons_succ]; go_simp; first | done | with_reducible rfl)
 simp only [List.getElem_toArray, List.getElem_cons_zero, List.getElem_cons_succ, Act.put, List.setIfInBounds_toArray, List.set_cons_zero, List.set_cons_succ]
 refine wpAnyH_take (i := 1) (v := _) rfl (by kernel_rfl) (by kernel_rfl) (by kernel_rfl) (fun _ _ _ h => h) (yieldsIf_load_mid (by rfl) 71 _ rfl (w.heap.size) (2) rfl (SL) _ (fun w hw => hw.1) (Try.underlying71) rfl (HIS.out)) (by assumption) ?_
 simp only [List.getElem_toArray, List.getElem_cons_zero, List.getElem_cons_succ, Act.put, List.setIfInBounds_toArray, List.set_cons_zero, List.set_cons_succ]
 refine wpAnyH_take (i := 2) (v := ?_) rfl (by kernel_rfl) (by kernel_rfl) (by kernel_rfl) (fun _ _ _ h => h) (Or.inl ⟨by rfl, ?_⟩) (by assumption) ?_
 rotate_left
 ·(intro w hSw; (try dsimp only at hSw); simp only [List.getElem_toArray, List.getElem_cons_zero, List.getElem_cons_succ]; go_simp; first | done | with_reducible rfl)
 simp only [List.getElem_toArray, List.getElem_cons_zero, List.getElem_cons_succ, Act.put, List.setIfInBounds_toArray, List.set_cons_zero, List.set_cons_succ]
 refine wpAnyH_take (i := 3) (v := ?_) rfl (by kernel_rfl) (by kernel_rfl) (by kernel_rfl) (fun _ _ _ h => h) (Or.inl ⟨by rfl, ?_⟩) (by assumption) ?_
 rotate_left
 ·(intro w hSw; (try dsimp only at hSw); simp only [List.getElem_toArray, List.getElem_cons_zero, List.getElem_cons_succ]; go_simp; first | done | with_reducible rfl)
 simp only [List.getElem_toArray, List.getElem_cons_zero, List.getElem_cons_succ, Act.put, List.setIfInBounds_toArray, List.set_cons_zero, List.set_cons_succ]
 have HP3 : Hid (PkW (w.heap.size + 1) W1 v2 A0 ((W2.alloc (.cells SL.toArray 71)).drew)) := Lib.hid (HP.out.mono (balloc (Below.refl _ W2) _).drew)
 refine wpAnyH_ready (rs := [4]) (by kernel_rfl) (by simp) ?_
 refine AllReadyH.cons rfl (fun K hK => ?_) AllReadyH.nil
 simp only [List.getElem_toArray, List.getElem_cons_zero, List.getElem_cons_succ]
 go_simp
 refine hK.out _ _ ?_ (fun hHeld => ?_)
 ·exact HS2.out _ (HP.out.mono (balloc (Below.refl _ W2) _).drew).below
 clear hK K
 try simp only [Act.put, List.setIfInBounds_toArray, List.set_cons_zero, List.set_cons_succ]
 refine wpAnyH_ready (rs := [5]) (by kernel_rfl) (by simp) ?_
 refine AllReadyH.cons rfl (fun K hK => ?_) AllReadyH.nil
 simp only [List.getElem_toArray, List.getElem_cons_zero, List.getElem_cons_succ]
 go_simp
 refine hK.out _ _ ?_ (fun hHeld => ?_)
 ·exact HS2.out _ HP3.out.below
 clear hK K
 try simp only [Act.put, List.setIfInBounds_toArray, List.set_cons_zero, List.set_cons_succ]
 refine wpAnyH_take (i := 6) (v := ?_) rfl (by kernel_rfl) (by kernel_rfl) (by kernel_rfl) (fun _ _ _ h => h) (Or.inl ⟨by rfl, ?_⟩) (by assumption) ?_
 rotate_left
 ·(intro w hSw; (try dsimp only at hSw); simp only [List.getElem_toArray, List.getElem_cons_zero, List.getElem_cons_succ]; go_simp; first | done | with_reducible rfl)
 simp only [List.getElem_toArray, List.getElem_cons_zero, List.getElem_cons_succ, Act.put, List.setIfInBounds_toArray, List.set_cons_zero, List.set_cons_succ]
 refine wpAnyH_done (by kernel_rfl) ?_ _
 clear hHeld hst hsl
 have HQB : Hid (((W2.alloc (.cells SL.toArray 71)).drew).heap[W2.heap.size]? = some (.cells SL.toArray 71 (0, 0))) := Lib.hid (heap_alloc_new W2.drew _)
 obtain ⟨Q, hQ⟩ : ∃ Q, W2.heap.size = Q := ⟨_, rfl⟩
 have HQZ : Hid (Q < ((W2.alloc (.cells SL.toArray 71)).drew).heap.size ∧ w.heap.size + 1 ≤ Q) := Lib.hid ⟨by rw [← hQ]; simp, by rw [← hQ]; exact HP.out.sz⟩
 rw [hQ] at HQB ⊢
 clear hQ HP HS2 HIS
 generalize (W2.alloc (.cells SL.toArray 71)).drew = W3 at *
 have HP := HP3
 clear HP3
 obtain ⟨hb, hhb⟩ : ∃ h, hasL (nmM m.k) 116 = h := ⟨_, rfl⟩
 have HCH : Hid (∀ X : World, Calls Try.prog 119 #[.int .i64 m.k, .int .u8 116] X fun e w' => e = .returned (.bool hb) ∧ X = w') := Lib.hid (fun X => by rw [← hhb]; exact CH.out 116 X)
 have HHB0 := Lib.hid hhb
 clear hhb
 go_upto_if 19 with (go_at_call 119; refine (HCH.out _).mono ?_; rintro e wx ⟨rfl, rfl⟩)
 go_cut [3] (fun v wx => ∃ (W : World) (v' : Value), W = wx ∧ v' = v ∧ PkW (w.heap.size + 1) W1 v' (A0 ++ aR hb (lcu 116 m)) W)
 case first =>
  have HHB := HHB0
  clear HHB0 HCH
  obtain ⟨WI, hWI⟩ : ∃ W, W = W3 := ⟨_, rfl⟩
  subst hWI
  cases hb with
  | false =>
   go_wp2_with fail
   go_meet
   exact ⟨_, _, rfl, rfl, by rw [show aR false (lcu 116 m) = [] from rfl, List.append_nil]; exact HP.out⟩
  | true =>
   have HQX : Hid (∀ X : World, X.heap[Q]? = some (.cells SL.toArray 71 (0, 0)) → (X.cell? ⟨Q, 0, none⟩ = some (.int .u64 (m.st.epoch : Int)) ∧ X.cell? ⟨Q, 1, none⟩ = some (.int .u64 (m.st.last : Int)) ∧ X.cell? ⟨Q, 2, none⟩ = some (.int .u64 (m.st.seq : Int)) ∧ X.cell? ⟨Q, 3, none⟩ = some (.int .u64 (m.st.bl : Int)) ∧ X.cell? ⟨Q, 4, none⟩ = some (.int .u64 (m.st.bs : Int)) ∧ X.cell? ⟨Q, 5, none⟩ = some (.bool m.st.marked))) := Lib.hid (fun X hX => by
    rw [← HSL.out] at hX
    exact ⟨cellIs hX rfl, cellIs hX rfl, cellIs hX rfl, cellIs hX rfl, cellIs hX rfl, cellIs hX rfl⟩)
   have hq0 := HQX.out WI.drew HQB.out
   have HVV : Hid (∀ W : World, Calls Try.prog 123 #[.slice (some ⟨W.heap.size, 0, none⟩) 5 5] (W.alloc (.cells #[.int .u64 (m.st.epoch : Int), .int .u64 (m.st.last : Int), .int .u64 (m.st.seq : Int), .int .u64 (m.st.bl : Int), .int .u64 (m.st.bs : Int)] 23)) fun e w' => ∃ v', e = .returned v' ∧ w'.ownsRow (W.heap.size + 1) 5 1 v' 40 (bV (low m.st.epoch 8 ++ (low m.st.last 8 ++ (low m.st.seq 8 ++ (low m.st.bl 8 ++ low m.st.bs 8))))) ∧ Below (W.heap.size + 1) (W.alloc (.cells #[.int .u64 (m.st.epoch : Int), .int .u64 (m.st.last : Int), .int .u64 (m.st.seq : Int), .int .u64 (m.st.bl : Int), .int .u64 (m.st.bs : Int)] 23)) w') := Lib.hid (fun W => by
    have h := values19_any [m.st.epoch, m.st.last, m.st.seq, m.st.bl, m.st.bs] (.slice (some ⟨W.heap.size, 0, none⟩) 5 5) (W.alloc (.cells #[.int .u64 (m.st.epoch : Int), .int .u64 (m.st.last : Int), .int .u64 (m.st.seq : Int), .int .u64 (m.st.bl : Int), .int .u64 (m.st.bs : Int)] 23)) (Rd.of_own (own_newN W 0 (Nat.zero_le _) 23 (uV [m.st.epoch, m.st.last, m.st.seq, m.st.bl, m.st.bs]) 1 5 rfl (by omega))) (by simp) (by
     intro n hn
     simp only [List.mem_cons, List.not_mem_nil, or_false] at hn
     rcases hn with rfl | rfl | rfl | rfl | rfl
     ·exact HOK.out.st.epoch
     ·exact HOK.out.st.last
     ·exact HOK.out.st.seq
     ·exact HOK.out.st.bl
     ·exact HOK.out.st.bs)
    have e : lows [m.st.epoch, m.st.last, m.st.seq, m.st.bl, m.st.bs] = low m.st.epoch 8 ++ (low m.st.last 8 ++ (low m.st.seq 8 ++ (low m.st.bl 8 ++ low m.st.bs 8))) := by simp [lows]
    rw [e, World.size_alloc] at h
    exact h)
   go_upto_region 4 with fail
   refine wp_region_held_drew (S := fun X => X.cell? ⟨Q, 0, none⟩ = some (.int .u64 (m.st.epoch : Int)) ∧ X.cell? ⟨Q, 1, none⟩ = some (.int .u64 (m.st.last : Int)) ∧ X.cell? ⟨Q, 2, none⟩ = some (.int .u64 (m.st.seq : Int)) ∧ X.cell? ⟨Q, 3, none⟩ = some (.int .u64 (m.st.bl : Int)) ∧ X.cell? ⟨Q, 4, none⟩ = some (.int .u64 (m.st.bs : Int)) ∧ X.cell? ⟨Q, 5, none⟩ = some (.bool m.st.marked)) (by kernel_rfl) hq0 (fun hHeld => ?_)
   clear hq0
   refine wpAnyH_take (i := 0) (v := ?_) rfl (by kernel_rfl) (by kernel_rfl) (by kernel_rfl) (fun _ _ _ h => h) (Or.inl ⟨by rfl, ?_⟩) (by assumption) ?_
   rotate_left
   ·(intro w hSw; (try dsimp only at hSw); simp only [List.getElem_toArray, List.getElem_cons_zero, List.getElem_cons_succ]; go_simp; first | done | with_reducible rfl)
   simp only [List.getElem_toArray, List.getElem_cons_zero, List.getElem_cons_succ, Act.put, List.setIfInBounds_toArray, List.set_cons_zero, List.set_cons_succ]
   refine wpAnyH_take (i := 1) (v := ?_) rfl (by kernel_rfl) (by kernel_rfl) (by kernel_rfl) (fun _ _ _ h => h) (Or.inl ⟨by rfl, ?_⟩) (by assumption) ?_
   rotate_left
   ·(intro w hSw; (try dsimp only at hSw); simp only [List.getElem_toArray, List.getElem_cons_zero, List.getElem_cons_succ]; go_simp; first | done | with_reducible rfl)
   simp only [List.getElem_toArray, List.getElem_cons_zero, List.getElem_cons_succ, Act.put, List.setIfInBounds_toArray, List.set_cons_zero, List.set_cons_succ]
   refine wpAnyH_take (i := 2) (v := ?_) rfl (by kernel_rfl) (by kernel_rfl) (by kernel_rfl) (fun _ _ _ h => h) (Or.inl ⟨by rfl, ?_⟩) (by assumption) ?_
   rotate_left
   ·(intro w hSw; (try dsimp only at hSw); simp only [List.getElem_toArray, List.getElem_cons_zero, List.getElem_cons_succ]; go_simp; first | done | with_reducible rfl)
   simp only [List.getElem_toArray, List.getElem_cons_zero, List.getElem_cons_succ, Act.put, List.setIfInBounds_toArray, List.set_cons_zero, List.set_cons_succ]
   refine wpAnyH_take (i := 3) (v := ?_) rfl (by kernel_rfl) (by kernel_rfl) (by kernel_rfl) (fun _ _ _ h => h) (Or.inl ⟨by rfl, ?_⟩) (by assumption) ?_
   rotate_left
   ·(intro w hSw; (try dsimp only at hSw); simp only [List.getElem_toArray, List.getElem_cons_zero, List.getElem_cons_succ]; go_simp; first | done | with_reducible rfl)
   simp only [List.getElem_toArray, List.getElem_cons_zero, List.getElem_cons_succ, Act.put, List.setIfInBounds_toArray, List.set_cons_zero, List.set_cons_succ]
   refine wpAnyH_take (i := 4) (v := ?_) rfl (by kernel_rfl) (by kernel_rfl) (by kernel_rfl) (fun _ _ _ h => h) (Or.inl ⟨by rfl, ?_⟩) (by assumption) ?_
   rotate_left
   ·(intro w hSw; (try dsimp only at hSw); simp only [List.getElem_toArray, List.getElem_cons_zero, List.getElem_cons_succ]; go_simp; first | done | with_reducible rfl)
   simp only [List.getElem_toArray, List.getElem_cons_zero, List.getElem_cons_succ, Act.put, List.setIfInBounds_toArray, List.set_cons_zero, List.set_cons_succ]
   refine wpAnyH_take (i := 5) (v := ?_) rfl (by kernel_rfl) (by kernel_rfl) (by kernel_rfl) (fun _ _ _ h => h) (Or.inl ⟨by rfl, ?_⟩) (by assumption) ?_
   rotate_left
   ·(intro w hSw; (try dsimp only at hSw); simp only [List.getElem_toArray, List.getElem_cons_zero, List.getElem_cons_succ]; go_simp; first | done | with_reducible rfl)
   simp only [List.getElem_toArray, List.getElem_cons_zero, List.getElem_cons_succ, Act.put, List.setIfInBounds_toArray, List.set_cons_zero, List.set_cons_succ]
   refine wpAnyH_take (i := 6) (v := ?_) rfl (by kernel_rfl) (by kernel_rfl) (by kernel_rfl) (fun _ _ _ h => h) (Or.inl ⟨by rfl, ?_⟩) (by assumption) ?_
   rotate_left
   ·(intro w hSw; (try dsimp only at hSw); simp only [List.getElem_toArray, List.getElem_cons_zero, List.getElem_cons_succ]; go_simp; first | done | with_reducible rfl)
   simp only [List.getElem_toArray, List.getElem_cons_zero, List.getElem_cons_succ, Act.put, List.setIfInBounds_toArray, List.set_cons_zero, List.set_cons_succ]
   refine wpAnyH_take (i := 7) (v := ?_) rfl (by kernel_rfl) (by kernel_rfl) (by kernel_rfl) (fun _ _ _ h => h) (Or.inl ⟨by rfl, ?_⟩) (by assumption) ?_
   rotate_left
   ·(intro w hSw; (try dsimp only at hSw); simp only [List.getElem_toArray, List.getElem_cons_zero, List.getElem_cons_succ]; go_simp; first | done | with_reducible rfl)
   simp only [List.getElem_toArray, List.getElem_cons_zero, List.getElem_cons_succ, Act.put, List.setIfInBounds_toArray, List.set_cons_zero, List.set_cons_succ]
   refine wpAnyH_take (i := 8) (v := ?_) rfl (by kernel_rfl) (by kernel_rfl) (by kernel_rfl) (fun _ _ _ h => h) (Or.inl ⟨by rfl, ?_⟩) (by assumption) ?_
   rotate_left
   ·(intro w hSw; (try dsimp only at hSw); simp only [List.getElem_toArray, List.getElem_cons_zero, List.getElem_cons_succ]; go_simp; first | done | with_reducible rfl)
   simp only [List.getElem_toArray, List.getElem_cons_zero, List.getElem_cons_succ, Act.put, List.setIfInBounds_toArray, List.set_cons_zero, List.set_cons_succ]
   refine wpAnyH_take (i := 9) (v := ?_) rfl (by kernel_rfl) (by kernel_rfl) (by kernel_rfl) (fun _ _ _ h => h) (Or.inl ⟨by rfl, ?_⟩) (by assumption) ?_
   rotate_left
   ·(intro w hSw; (try dsimp only at hSw); simp only [List.getElem_toArray, List.getElem_cons_zero, List.getElem_cons_succ]; go_simp; first | done | with_reducible rfl)
   simp only [List.getElem_toArray, List.getElem_cons_zero, List.getElem_cons_succ, Act.put, List.setIfInBounds_toArray, List.set_cons_zero, List.set_cons_succ]
   refine wpAnyH_take (i := 10) (v := ?_) rfl (by kernel_rfl) (by kernel_rfl) (by kernel_rfl) (fun _ _ _ h => h) (Or.inl ⟨by rfl, ?_⟩) (by assumption) ?_
   rotate_left
   ·(intro w hSw; (try dsimp only at hSw); simp only [List.getElem_toArray, List.getElem_cons_zero, List.getElem_cons_succ]; go_simp; first | done | with_reducible rfl)
   simp only [List.getElem_toArray, List.getElem_cons_zero, List.getElem_cons_succ, Act.put, List.setIfInBounds_toArray, List.set_cons_zero, List.set_cons_succ]
   refine wpAnyH_take (i := 14) (v := ?_) rfl (by kernel_rfl) (by kernel_rfl) (by kernel_rfl) (fun _ _ _ h => h) (Or.inl ⟨by rfl, ?_⟩) (by assumption) ?_
   rotate_left
   ·(intro w hSw; (try dsimp only at hSw); simp only [List.getElem_toArray, List.getElem_cons_zero, List.getElem_cons_succ]; go_simp; first | done | with_reducible rfl)
   simp only [List.getElem_toArray, List.getElem_cons_zero, List.getElem_cons_succ, Act.put, List.setIfInBounds_toArray, List.set_cons_zero, List.set_cons_succ]
   refine wpAnyH_take (i := 15) (v := ?_) rfl (by kernel_rfl) (by kernel_rfl) (by kernel_rfl) (fun _ _ _ h => h) (Or.inl ⟨by rfl, ?_⟩) (by assumption) ?_
   rotate_left
   ·(intro w hSw; (try dsimp only at hSw); simp only [List.getElem_toArray, List.getElem_cons_zero, List.getElem_cons_succ]; go_simp; first | done | with_reducible rfl)
   simp only [List.getElem_toArray, List.getElem_cons_zero, List.getElem_cons_succ, Act.put, List.setIfInBounds_toArray, List.set_cons_zero, List.set_cons_succ]
   have HBA : Below WI.heap.size WI (WI.drew.alloc (.cells #[.int .u64 (m.st.epoch : Int), .int .u64 (m.st.last : Int), .int .u64 (m.st.seq : Int), .int .u64 (m.st.bl : Int), .int .u64 (m.st.bs : Int)] 23)) := balloc (Below.refl _ WI).drew _
   have HPA := HP.out.mono HBA
   have HQA := (HBA.block Q HQZ.out.1).trans HQB.out
   refine wpAnyH_ready (rs := [11]) (by kernel_rfl) (by simp) ?_
   refine AllReadyH.cons rfl (fun K hK => ?_) AllReadyH.nil
   simp only [List.getElem_toArray, List.getElem_cons_zero, List.getElem_cons_succ]
   go_simp
   refine hK.out _ _ ?_ (fun hHeld => ?_)
   ·exact HQX.out _ HQA
   clear hK K
   try simp only [Act.put, List.setIfInBounds_toArray, List.set_cons_zero, List.set_cons_succ]
   refine wpAnyH_ready (rs := [12]) (by kernel_rfl) (by simp) ?_
   refine AllReadyH.cons rfl (fun K hK => ?_) AllReadyH.nil
   simp only [List.getElem_toArray, List.getElem_cons_zero, List.getElem_cons_succ]
   go_simp
   refine (HVV.out WI.drew).mono ?_
   rintro e w4 ⟨v4, rfl, ho4, hb4⟩
   dsimp only
   refine hK.out _ _ ?_ (fun hHeld => ?_)
   ·exact HQX.out _ ((hb4.block Q (Nat.lt_succ_of_lt HQZ.out.1)).trans HQA)
   clear hK K
   try simp only [Act.put, List.setIfInBounds_toArray, List.set_cons_zero, List.set_cons_succ]
   have HP4 := HPA.mono (by rw [World.size_alloc]; exact hb4)
   have HQ4 := (hb4.block Q (Nat.lt_succ_of_lt HQZ.out.1)).trans HQA
   have hz4 : Q < w4.heap.size := (Array.getElem?_eq_some_iff.1 HQ4).1
   refine wpAnyH_ready (rs := [13]) (by kernel_rfl) (by simp) ?_
   refine AllReadyH.cons rfl (fun K hK => ?_) AllReadyH.nil
   simp only [List.getElem_toArray, List.getElem_cons_zero, List.getElem_cons_succ]
   rw [if_pos (by rfl)]
   refine wp_apps _ _ 24 rfl (w.heap.size + 1) 5 _ 1 1 Try.underlying24 infoByte rfl (by decide) (by decide) _ _ _ (by rfl) HP4.own _ 40 _ (by rfl) (Rd.of_own ho4) (bV_one _) (by have := HN.out; omega) HP4.sz ?_
   intro v5 w5 ho5 hb5 hg5 hs5 hn5
   refine hK.out _ _ ?_ (fun hHeld => ?_)
   ·exact HQX.out _ (qkeep HP4.own hg5 HQ4)
   clear hK K
   try simp only [Act.put, List.setIfInBounds_toArray, List.set_cons_zero, List.set_cons_succ]
   have HP5 := HP4.app ho5 (by simp [low_len]) hb5
   have HQ5 := qkeep HP4.own hg5 HQ4
   have hz5 : Q < w5.heap.size := (Array.getElem?_eq_some_iff.1 HQ5).1
   refine wpAnyH_ready (rs := [16]) (by kernel_rfl) (by simp) ?_
   refine AllReadyH.cons rfl (fun K hK => ?_) AllReadyH.nil
   simp only [List.getElem_toArray, List.getElem_cons_zero, List.getElem_cons_succ]
   go_simp
   refine (flag19_any m.st.marked _).mono ?_
   rintro e w6 ⟨v6, rfl, ho6, hb6⟩
   dsimp only
   refine hK.out _ _ ?_ (fun hHeld => ?_)
   ·exact HQX.out _ ((hb6.block Q hz5).trans HQ5)
   clear hK K
   try simp only [Act.put, List.setIfInBounds_toArray, List.set_cons_zero, List.set_cons_succ]
   have HP6 := HP5.mono hb6
   have HQ6 := (hb6.block Q hz5).trans HQ5
   refine wpAnyH_ready (rs := [17]) (by kernel_rfl) (by simp) ?_
   refine AllReadyH.cons rfl (fun K hK => ?_) AllReadyH.nil
   simp only [List.getElem_toArray, List.getElem_cons_zero, List.getElem_cons_succ]
   rw [if_pos (by rfl)]
   refine wp_apps _ _ 24 rfl (w.heap.size + 1) 5 _ 1 1 Try.underlying24 infoByte rfl (by decide) (by decide) _ _ _ (by rfl) HP6.own _ 1 _ (by rfl) (Rd.of_own ho6) (bV_one _) (by rw [List.length_append]; simp only [List.length_append, low_len]; have := HN.out; omega) HP6.sz ?_
   intro v7 w7 ho7 hb7 hg7 hs7 hn7
   refine hK.out _ _ ?_ (fun hHeld => ?_)
   ·exact HQX.out _ (qkeep HP6.own hg7 HQ6)
   clear hK K
   try simp only [Act.put, List.setIfInBounds_toArray, List.set_cons_zero, List.set_cons_succ]
   refine wpAnyH_take (i := 18) (v := ?_) rfl (by kernel_rfl) (by kernel_rfl) (by kernel_rfl) (fun _ _ _ h => h) (Or.inl ⟨by rfl, ?_⟩) (by assumption) ?_
   rotate_left
   ·(intro w hSw; (try dsimp only at hSw); simp only [List.getElem_toArray, List.getElem_cons_zero, List.getElem_cons_succ]; go_simp; first | done | with_reducible rfl)
   simp only [List.getElem_toArray, List.getElem_cons_zero, List.getElem_cons_succ, Act.put, List.setIfInBounds_toArray, List.set_cons_zero, List.set_cons_succ]
   refine wpAnyH_done (by kernel_rfl) ?_ _
   have HP7 := HP6.app ho7 rfl hb7
   have HPF : Hid (PkW (w.heap.size + 1) W1 v7 (A0 ++ (low m.st.epoch 8 ++ (low m.st.last 8 ++ (low m.st.seq 8 ++ (low m.st.bl 8 ++ (low m.st.bs 8 ++ fl m.st.marked)))))) w7) := Lib.hid (by
    simp only [List.append_assoc] at HP7
    exact HP7)
   clear hHeld HBA HPA HQA ho4 hb4 HP4 HQ4 hz4 ho5 hb5 hg5 hs5 hn5 HP5 HQ5 hz5 ho6 hb6 HP6 HQ6 ho7 hb7 hg7 hs7 hn7 HP7
   have HPG : Hid (PkW (w.heap.size + 1) W1 _ (A0 ++ aR true (lcu 116 m)) _) := HPF
   go_wp2_with fail
   go_meet
   exact ⟨_, _, rfl, rfl, HPG.out⟩
 case rest =>
 obtain ⟨WF1, vF1, rfl, rfl, hpf⟩ := hcut
 rw [← HHB0.out] at hpf
 clear HHB0 HCH
 clear hb
 obtain ⟨A1, hA⟩ : ∃ A, A0 ++ aR (hasL (nmM m.k) 116) (lcu 116 m) = A := ⟨_, rfl⟩
 have HN2 : Hid (A1.length ≤ 8009) := Lib.hid (by
  rw [← hA, List.length_append]
  have h1 := HN.out
  have h2 := aR_len (h := hasL (nmM m.k) 116) (HLB.out 116 (by unfold nine; decide))
  omega)
 rw [hA] at HEQ hpf
 clear hA HN HP
 have HN := HN2
 have HP := Lib.hid hpf
 clear HN2 hpf
 clear HQB HQZ HSL
 obtain ⟨hb, hhb⟩ : ∃ h, hasL (nmM m.k) 108 = h := ⟨_, rfl⟩
 have HCH : Hid (∀ X : World, Calls Try.prog 119 #[.int .i64 m.k, .int .u8 108] X fun e w' => e = .returned (.bool hb) ∧ X = w') := Lib.hid (fun X => by rw [← hhb]; exact CH.out 108 X)
 have HHB0 := Lib.hid hhb
 clear hhb
 go_upto_if 39 with (go_at_call 119; refine (HCH.out _).mono ?_; rintro e wx ⟨rfl, rfl⟩)
 go_cut [3] (fun v wx => ∃ (W : World) (v' : Value), W = wx ∧ v' = v ∧ PkW (w.heap.size + 1) W1 v' (A1 ++ aR hb (lcu 108 m)) W)
 case first =>
  have HHB := HHB0
  clear HHB0 HCH
  obtain ⟨WI, hWI⟩ : ∃ W, W = WF1 := ⟨_, rfl⟩
  subst hWI
  cases hb with
  | false =>
   go_wp2_with fail
   go_meet
   exact ⟨_, _, rfl, rfl, by rw [show aR false (lcu 108 m) = [] from rfl, List.append_nil]; exact HP.out⟩
  | true =>
   have c8 := (HMA.out _ HP.out.below).c8
   go_wp2_with fail
   refine (flag19_any m.lead _).mono ?_
   rintro e w4 ⟨v4, rfl, ho4, hb4⟩
   have HP4 := Lib.hid (HP.out.mono hb4)
   have HR4 := Lib.hid (Rd.of_own ho4)
   clear ho4 hb4
   go_wp2_with (at_builtin; go_must (refine wpList_apps rfl _ _ 24 rfl (w.heap.size + 1) 5 _ 1 1 Try.underlying24 infoByte rfl (by decide) (by decide) _ _ _ rfl HP4.out.own _ 1 _ rfl HR4.out (bV_one _) (by have := HN.out; omega) HP4.out.sz ?_); intro v5 w5 ho5 hb5 hg5 hs5 hn5)
   have HPF := Lib.hid (HP4.out.app ho5 (by first | rfl | exact low_len _ _) hb5)
   clear ho5 hb5 hg5 hs5 hn5
   have HPG : Hid (PkW (w.heap.size + 1) W1 _ (A1 ++ aR true (lcu 108 m)) _) := HPF
   go_wp2_with fail
   go_meet
   exact ⟨_, _, rfl, rfl, HPG.out⟩
 case rest =>
 obtain ⟨WF2, vF2, rfl, rfl, hpf⟩ := hcut
 rw [← HHB0.out] at hpf
 clear HHB0 HCH
 clear hb
 obtain ⟨A2, hA⟩ : ∃ A, A1 ++ aR (hasL (nmM m.k) 108) (lcu 108 m) = A := ⟨_, rfl⟩
 have HN2 : Hid (A2.length ≤ 16009) := Lib.hid (by
  rw [← hA, List.length_append]
  have h1 := HN.out
  have h2 := aR_len (h := hasL (nmM m.k) 108) (HLB.out 108 (by unfold nine; decide))
  omega)
 rw [hA] at HEQ hpf
 clear hA HN HP
 have HN := HN2
 have HP := Lib.hid hpf
 clear HN2 hpf
 obtain ⟨hb, hhb⟩ : ∃ h, hasL (nmM m.k) 110 = h := ⟨_, rfl⟩
 have HCH : Hid (∀ X : World, Calls Try.prog 119 #[.int .i64 m.k, .int .u8 110] X fun e w' => e = .returned (.bool hb) ∧ X = w') := Lib.hid (fun X => by rw [← hhb]; exact CH.out 110 X)
 have HHB0 := Lib.hid hhb
 clear hhb
 go_upto_if 46 with (go_at_call 119; refine (HCH.out _).mono ?_; rintro e wx ⟨rfl, rfl⟩)
 go_cut [3] (fun v wx => ∃ (W : World) (v' : Value), W = wx ∧ v' = v ∧ PkW (w.heap.size + 1) W1 v' (A2 ++ aR hb (lcu 110 m)) W)
 case first =>
  have HHB := HHB0
  clear HHB0 HCH
  obtain ⟨WI, hWI⟩ : ∃ W, W = WF2 := ⟨_, rfl⟩
  subst hWI
  cases hb with
  | false =>
   go_wp2_with fail
   go_meet
   exact ⟨_, _, rfl, rfl, by rw [show aR false (lcu 110 m) = [] from rfl, List.append_nil]; exact HP.out⟩
  | true =>
   have c18 := (HMA.out _ HP.out.below).c18
   go_wp2_with fail
   refine (rlow_any m.num 8 _ HOK.out.num (by omega)).mono ?_
   rintro e w4 ⟨v4, rfl, ho4, hb4⟩
   have HP4 := Lib.hid (HP.out.mono hb4)
   have HR4 := Lib.hid (Rd.of_own ho4)
   clear ho4 hb4
   go_wp2_with (at_builtin; go_must (refine wpList_apps rfl _ _ 24 rfl (w.heap.size + 1) 5 _ 1 1 Try.underlying24 infoByte rfl (by decide) (by decide) _ _ _ rfl HP4.out.own _ 8 _ rfl HR4.out (bV_one _) (by have := HN.out; omega) HP4.out.sz ?_); intro v5 w5 ho5 hb5 hg5 hs5 hn5)
   have HPF := Lib.hid (HP4.out.app ho5 (by first | rfl | exact low_len _ _) hb5)
   clear ho5 hb5 hg5 hs5 hn5
   have HPG : Hid (PkW (w.heap.size + 1) W1 _ (A2 ++ aR true (lcu 110 m)) _) := HPF
   go_wp2_with fail
   go_meet
   exact ⟨_, _, rfl, rfl, HPG.out⟩
 case rest =>
 obtain ⟨WF3, vF3, rfl, rfl, hpf⟩ := hcut
 rw [← HHB0.out] at hpf
 clear HHB0 HCH
 clear hb
 obtain ⟨A3, hA⟩ : ∃ A, A2 ++ aR (hasL (nmM m.k) 110) (lcu 110 m) = A := ⟨_, rfl⟩
 have HN2 : Hid (A3.length ≤ 24009) := Lib.hid (by
  rw [← hA, List.length_append]
  have h1 := HN.out
  have h2 := aR_len (h := hasL (nmM m.k) 110) (HLB.out 110 (by unfold nine; decide))
  omega)
 rw [hA] at HEQ hpf
 clear hA HN HP
 have HN := HN2
 have HP := Lib.hid hpf
 clear HN2 hpf
 obtain ⟨hb, hhb⟩ : ∃ h, hasL (nmM m.k) 115 = h := ⟨_, rfl⟩
 have HCH : Hid (∀ X : World, Calls Try.prog 119 #[.int .i64 m.k, .int .u8 115] X fun e w' => e = .returned (.bool hb) ∧ X = w') := Lib.hid (fun X => by rw [← hhb]; exact CH.out 115 X)
 have HHB0 := Lib.hid hhb
 clear hhb
 go_upto_if 53 with (go_at_call 119; refine (HCH.out _).mono ?_; rintro e wx ⟨rfl, rfl⟩)
 go_cut [3] (fun v wx => ∃ (W : World) (v' : Value), W = wx ∧ v' = v ∧ PkW (w.heap.size + 1) W1 v' (A3 ++ aR hb (lcu 115 m)) W)
 case first =>
  have HHB := HHB0
  clear HHB0 HCH
  obtain ⟨WI, hWI⟩ : ∃ W, W = WF3 := ⟨_, rfl⟩
  subst hWI
  cases hb with
  | false =>
   go_wp2_with fail
   go_meet
   exact ⟨_, _, rfl, rfl, by rw [show aR false (lcu 115 m) = [] from rfl, List.append_nil]; exact HP.out⟩
  | true =>
   have c9 := (HMA.out _ HP.out.below).c9
   go_wp2_with fail
   refine (rlow_any m.seq 8 _ HOK.out.seq (by omega)).mono ?_
   rintro e w4 ⟨v4, rfl, ho4, hb4⟩
   have HP4 := Lib.hid (HP.out.mono hb4)
   have HR4 := Lib.hid (Rd.of_own ho4)
   clear ho4 hb4
   go_wp2_with (at_builtin; go_must (refine wpList_apps rfl _ _ 24 rfl (w.heap.size + 1) 5 _ 1 1 Try.underlying24 infoByte rfl (by decide) (by decide) _ _ _ rfl HP4.out.own _ 8 _ rfl HR4.out (bV_one _) (by have := HN.out; omega) HP4.out.sz ?_); intro v5 w5 ho5 hb5 hg5 hs5 hn5)
   have HPF := Lib.hid (HP4.out.app ho5 (by first | rfl | exact low_len _ _) hb5)
   clear ho5 hb5 hg5 hs5 hn5
   have HPG : Hid (PkW (w.heap.size + 1) W1 _ (A3 ++ aR true (lcu 115 m)) _) := HPF
   go_wp2_with fail
   go_meet
   exact ⟨_, _, rfl, rfl, HPG.out⟩
 case rest =>
 obtain ⟨WF4, vF4, rfl, rfl, hpf⟩ := hcut
 rw [← HHB0.out] at hpf
 clear HHB0 HCH
 clear hb
 obtain ⟨A4, hA⟩ : ∃ A, A3 ++ aR (hasL (nmM m.k) 115) (lcu 115 m) = A := ⟨_, rfl⟩
 have HN2 : Hid (A4.length ≤ 32009) := Lib.hid (by
  rw [← hA, List.length_append]
  have h1 := HN.out
  have h2 := aR_len (h := hasL (nmM m.k) 115) (HLB.out 115 (by unfold nine; decide))
  omega)
 rw [hA] at HEQ hpf
 clear hA HN HP
 have HN := HN2
 have HP := Lib.hid hpf
 clear HN2 hpf
 obtain ⟨hb, hhb⟩ : ∃ h, hasL (nmM m.k) 102 = h := ⟨_, rfl⟩
 have HCH : Hid (∀ X : World, Calls Try.prog 119 #[.int .i64 m.k, .int .u8 102] X fun e w' => e = .returned (.bool hb) ∧ X = w') := Lib.hid (fun X => by rw [← hhb]; exact CH.out 102 X)
 have HHB0 := Lib.hid hhb
 clear hhb
 go_upto_if 60 with (go_at_call 119; refine (HCH.out _).mono ?_; rintro e wx ⟨rfl, rfl⟩)
 go_cut [3] (fun v wx => ∃ (W : World) (v' : Value), W = wx ∧ v' = v ∧ PkW (w.heap.size + 1) W1 v' (A4 ++ aR hb (lcu 102 m)) W)
 case first =>
  have HHB := HHB0
  clear HHB0 HCH
  obtain ⟨WI, hWI⟩ : ∃ W, W = WF4 := ⟨_, rfl⟩
  subst hWI
  cases hb with
  | false =>
   go_wp2_with fail
   go_meet
   exact ⟨_, _, rfl, rfl, by rw [show aR false (lcu 102 m) = [] from rfl, List.append_nil]; exact HP.out⟩
  | true =>
   have c19 := (HMA.out _ HP.out.below).c19
   have hf : 0 ≤ m.fro ∧ m.fro ≤ 2 := by
    have h := HKP.out 102 HHB.out
    have e : kept (((102 : UInt8).toNat : Nat) : Int) m = decide (0 ≤ m.fro ∧ m.fro ≤ 2) := rfl
    rw [e] at h
    exact of_decide_eq_true h
   have hwf : IntKind.u8.wrap m.fro = m.fro := u8_small hf.1 (by omega)
   have HP4 := Lib.hid (HP.out.mono (balloc (Below.refl _ WI) (.cells #[.int .u8 m.fro] 5)))
   have HR4 : Hid (Rd (WI.alloc (.cells #[.int .u8 m.fro] 5)) 1 (.slice (some ⟨WI.heap.size, 0, none⟩) 1 1) 1 (bV (low (toU m.fro) 1))) := Lib.hid (by
    have h := Rd.of_own (own_new WI 0 (Nat.zero_le _) 5 [.int .u8 m.fro] 1 rfl)
    have e2 := toU_of (n := m.fro) (by omega) (by omega)
    have e : bV (low (toU m.fro) 1) = [.int .u8 m.fro] := by rw [low_one (by omega), e2]
    rw [e]
    exact h)
   clear hf
   go_wp2_with (at_builtin; go_must (refine wpList_apps rfl _ _ 24 rfl (w.heap.size + 1) 5 _ 1 1 Try.underlying24 infoByte rfl (by decide) (by decide) _ _ _ rfl HP4.out.own _ 1 _ rfl HR4.out (bV_one _) (by have := HN.out; omega) HP4.out.sz ?_); intro v5 w5 ho5 hb5 hg5 hs5 hn5)
   have HPF := Lib.hid (HP4.out.app ho5 (low_len _ _) hb5)
   clear ho5 hb5 hg5 hs5 hn5
   have HPG : Hid (PkW (w.heap.size + 1) W1 _ (A4 ++ aR true (lcu 102 m)) _) := HPF
   go_wp2_with fail
   go_meet
   exact ⟨_, _, rfl, rfl, HPG.out⟩
 case rest =>
 obtain ⟨WF5, vF5, rfl, rfl, hpf⟩ := hcut
 rw [← HHB0.out] at hpf
 clear HHB0 HCH
 clear hb
 obtain ⟨A5, hA⟩ : ∃ A, A4 ++ aR (hasL (nmM m.k) 102) (lcu 102 m) = A := ⟨_, rfl⟩
 have HN2 : Hid (A5.length ≤ 40009) := Lib.hid (by
  rw [← hA, List.length_append]
  have h1 := HN.out
  have h2 := aR_len (h := hasL (nmM m.k) 102) (HLB.out 102 (by unfold nine; decide))
  omega)
 rw [hA] at HEQ hpf
 clear hA HN HP
 have HN := HN2
 have HP := Lib.hid hpf
 clear HN2 hpf
 obtain ⟨hb, hhb⟩ : ∃ h, hasL (nmM m.k) 109 = h := ⟨_, rfl⟩
 have HCH : Hid (∀ X : World, Calls Try.prog 119 #[.int .i64 m.k, .int .u8 109] X fun e w' => e = .returned (.bool hb) ∧ X = w') := Lib.hid (fun X => by rw [← hhb]; exact CH.out 109 X)
 have HHB0 := Lib.hid hhb
 clear hhb
 go_upto_if 68 with (go_at_call 119; refine (HCH.out _).mono ?_; rintro e wx ⟨rfl, rfl⟩)
 go_cut [3] (fun v wx => ∃ (W : World) (v' : Value), W = wx ∧ v' = v ∧ PkW (w.heap.size + 1) W1 v' (A5 ++ aR hb (lcu 109 m)) W)
 case first =>
  have HHB := HHB0
  clear HHB0 HCH
  obtain ⟨WI, hWI⟩ : ∃ W, W = WF5 := ⟨_, rfl⟩
  subst hWI
  cases hb with
  | false =>
   go_wp2_with fail
   go_meet
   exact ⟨_, _, rfl, rfl, by rw [show aR false (lcu 109 m) = [] from rfl, List.append_nil]; exact HP.out⟩
  | true =>
   have c20 := (HMA.out _ HP.out.below).c20
   have c21 := (HMA.out _ HP.out.below).c21
   have HPA := Lib.hid (HP.out.mono (balloc (Below.refl _ WI) (.cells #[.int .u64 (m.ne : Int), .int .u64 (m.ns : Int)] 23)))
   have CV := values19_any [m.ne, m.ns] (.slice (some ⟨WI.heap.size, 0, none⟩) 2 2) (WI.alloc (.cells #[.int .u64 (m.ne : Int), .int .u64 (m.ns : Int)] 23)) (Rd.of_own (own_newN WI 0 (Nat.zero_le _) 23 (uV [m.ne, m.ns]) 1 2 rfl (by omega))) (by simp) (by
    intro n hn
    simp only [List.mem_cons, List.not_mem_nil, or_false] at hn
    rcases hn with rfl | rfl
    ·exact HOK.out.ne
    ·exact HOK.out.ns)
   have HCV := Lib.hid CV
   clear CV
   go_wp2_with fail
   refine HCV.out.mono ?_
   rintro e w4 ⟨v4, rfl, ho4, hb4⟩
   have HP4 := Lib.hid (HPA.out.mono hb4)
   have e16 : lows [m.ne, m.ns] = low m.ne 8 ++ low m.ns 8 := by simp [lows]
   rw [e16] at ho4
   have HR4 : Hid (Rd w4 1 v4 16 (bV (low m.ne 8 ++ low m.ns 8))) := Lib.hid (Rd.of_own ho4)
   clear ho4 hb4 e16
   go_wp2_with (at_builtin; go_must (refine wpList_apps rfl _ _ 24 rfl (w.heap.size + 1) 5 _ 1 1 Try.underlying24 infoByte rfl (by decide) (by decide) _ _ _ rfl HP4.out.own _ 16 _ rfl HR4.out (bV_one _) (by have := HN.out; omega) HP4.out.sz ?_); intro v5 w5 ho5 hb5 hg5 hs5 hn5)
   have HPF := Lib.hid (HP4.out.app ho5 (by rw [List.length_append, low_len, low_len]) hb5)
   clear ho5 hb5 hg5 hs5 hn5
   have HPG : Hid (PkW (w.heap.size + 1) W1 _ (A5 ++ aR true (lcu 109 m)) _) := HPF
   go_wp2_with fail
   go_meet
   exact ⟨_, _, rfl, rfl, HPG.out⟩
 case rest =>
 obtain ⟨WF6, vF6, rfl, rfl, hpf⟩ := hcut
 rw [← HHB0.out] at hpf
 clear HHB0 HCH
 clear hb
 obtain ⟨A6, hA⟩ : ∃ A, A5 ++ aR (hasL (nmM m.k) 109) (lcu 109 m) = A := ⟨_, rfl⟩
 have HN2 : Hid (A6.length ≤ 48009) := Lib.hid (by
  rw [← hA, List.length_append]
  have h1 := HN.out
  have h2 := aR_len (h := hasL (nmM m.k) 109) (HLB.out 109 (by unfold nine; decide))
  omega)
 rw [hA] at HEQ hpf
 clear hA HN HP
 have HN := HN2
 have HP := Lib.hid hpf
 clear HN2 hpf
 obtain ⟨hb, hhb⟩ : ∃ h, hasL (nmM m.k) 111 = h := ⟨_, rfl⟩
 have HCH : Hid (∀ X : World, Calls Try.prog 119 #[.int .i64 m.k, .int .u8 111] X fun e w' => e = .returned (.bool hb) ∧ X = w') := Lib.hid (fun X => by rw [← hhb]; exact CH.out 111 X)
 have HHB0 := Lib.hid hhb
 clear hhb
 go_upto_if 80 with (go_at_call 119; refine (HCH.out _).mono ?_; rintro e wx ⟨rfl, rfl⟩)
 go_cut [3] (fun v wx => ∃ (W : World) (v' : Value), W = wx ∧ v' = v ∧ PkW (w.heap.size + 1) W1 v' (A6 ++ aR hb (lcu 111 m)) W)
 case first =>
  have HHB := HHB0
  clear HHB0 HCH
  obtain ⟨WI, hWI⟩ : ∃ W, W = WF6 := ⟨_, rfl⟩
  subst hWI
  cases hb with
  | false =>
   go_wp2_with fail
   go_meet
   exact ⟨_, _, rfl, rfl, by rw [show aR false (lcu 111 m) = [] from rfl, List.append_nil]; exact HP.out⟩
  | true =>
   obtain ⟨u0, u1, u2, u3, u4, u5, u6⟩ := op_at (HMA.out _ HP.out.below).r10
   simp only [Nat.reduceAdd] at u0 u1 u2 u3 u4 u5 u6
   have hmo : mayO m.op = true := HKP.out 111 HHB.out
   obtain ⟨bs, hbs, hpk⟩ := packO_some hmo
   have hbq := opB_of hbs
   have HBL : Hid (bs.length ≤ 7000) := Lib.hid (by rw [← hbq]; exact HOB.out.1)
   have CP : Hid (Calls Try.prog 27 #[.agg (oC m.op s1)] WI fun e w' => ∃ v', e = .returned v' ∧ w'.ownsRow WI.heap.size 5 1 v' bs.length (bV bs) ∧ Below WI.heap.size WI w') := Lib.hid (rpackO_any m.op HOK.out.op s1 WI (HD1.out.below (HB1.out.trans (HP.out.below.mono (Nat.le_succ _)))) (by have := HSM.out.1; omega) bs hpk)
   have HBQ := Lib.hid hbq
   unfold oC at CP
   clear hmo hbs hpk hbq
   go_wp2_with fail
   refine CP.out.mono ?_
   rintro e w4 ⟨v4, rfl, ho4, hb4⟩
   have HPA := Lib.hid (HP.out.mono hb4)
   have CBL := Lib.hid (blob19_any bs v4 w4 (Rd.of_own ho4) (by have := HBL.out; omega))
   clear ho4 hb4 u0 u1 u2 u3 u4 u5 u6
   go_wp2_with fail
   refine CBL.out.mono ?_
   rintro e w4' ⟨v4', rfl, ho4, hb4⟩
   have HP4 := Lib.hid (HPA.out.mono hb4)
   have HR4 := Lib.hid (Rd.of_own ho4)
   have hbl := HBL.out
   clear ho4 hb4
   go_wp2_with (at_builtin; go_must (refine wpList_apps rfl _ _ 24 rfl (w.heap.size + 1) 5 _ 1 1 Try.underlying24 infoByte rfl (by decide) (by decide) _ _ _ rfl HP4.out.own _ (4 + bs.length) _ rfl HR4.out (bV_one _) (by have := HN.out; omega) HP4.out.sz ?_); intro v5 w5 ho5 hb5 hg5 hs5 hn5)
   have HPF : Hid (PkW (w.heap.size + 1) W1 v5 (A6 ++ (low (opB m.op).length 4 ++ opB m.op)) w5) := Lib.hid (by rw [HBQ.out]; exact HP4.out.app ho5 (by rw [List.length_append, low_len]) hb5)
   clear ho5 hb5 hg5 hs5 hn5
   have HPG : Hid (PkW (w.heap.size + 1) W1 _ (A6 ++ aR true (lcu 111 m)) _) := HPF
   go_wp2_with fail
   go_meet
   exact ⟨_, _, rfl, rfl, HPG.out⟩
 case rest =>
 obtain ⟨WF7, vF7, rfl, rfl, hpf⟩ := hcut
 rw [← HHB0.out] at hpf
 clear HHB0 HCH
 clear hb
 obtain ⟨A7, hA⟩ : ∃ A, A6 ++ aR (hasL (nmM m.k) 111) (lcu 111 m) = A := ⟨_, rfl⟩
 have HN2 : Hid (A7.length ≤ 56009) := Lib.hid (by
  rw [← hA, List.length_append]
  have h1 := HN.out
  have h2 := aR_len (h := hasL (nmM m.k) 111) (HLB.out 111 (by unfold nine; decide))
  omega)
 rw [hA] at HEQ hpf
 clear hA HN HP
 have HN := HN2
 have HP := Lib.hid hpf
 clear HN2 hpf
 obtain ⟨hb, hhb⟩ : ∃ h, hasL (nmM m.k) 98 = h := ⟨_, rfl⟩
 have HCH : Hid (∀ X : World, Calls Try.prog 119 #[.int .i64 m.k, .int .u8 98] X fun e w' => e = .returned (.bool hb) ∧ X = w') := Lib.hid (fun X => by rw [← hhb]; exact CH.out 98 X)
 have HHB0 := Lib.hid hhb
 clear hhb
 go_upto_if 88 with (go_at_call 119; refine (HCH.out _).mono ?_; rintro e wx ⟨rfl, rfl⟩)
 go_cut [3] (fun v wx => ∃ (W : World) (v' : Value), W = wx ∧ v' = v ∧ PkW (w.heap.size + 1) W1 v' (A7 ++ aR hb (lcu 98 m)) W)
 case first =>
  have HHB := HHB0
  clear HHB0 HCH
  obtain ⟨WI, hWI⟩ : ∃ W, W = WF7 := ⟨_, rfl⟩
  subst hWI
  cases hb with
  | false =>
   go_wp2_with fail
   go_meet
   exact ⟨_, _, rfl, rfl, by rw [show aR false (lcu 98 m) = [] from rfl, List.append_nil]; exact HP.out⟩
  | true =>
   have c17 := (HMA.out _ HP.out.below).c17
   have hwb := u64_wrap m.blocks
   go_wp2_with fail
   refine (rlow_any (toU m.blocks) 4 _ (u64_lt _) (by omega)).mono ?_
   rintro e w4 ⟨v4, rfl, ho4, hb4⟩
   have HP4 := Lib.hid (HP.out.mono hb4)
   have HR4 := Lib.hid (Rd.of_own ho4)
   clear ho4 hb4
   go_wp2_with (at_builtin; go_must (refine wpList_apps rfl _ _ 24 rfl (w.heap.size + 1) 5 _ 1 1 Try.underlying24 infoByte rfl (by decide) (by decide) _ _ _ rfl HP4.out.own _ 4 _ rfl HR4.out (bV_one _) (by have := HN.out; omega) HP4.out.sz ?_); intro v5 w5 ho5 hb5 hg5 hs5 hn5)
   have HPF := Lib.hid (HP4.out.app ho5 (by first | rfl | exact low_len _ _) hb5)
   clear ho5 hb5 hg5 hs5 hn5
   have HPG : Hid (PkW (w.heap.size + 1) W1 _ (A7 ++ aR true (lcu 98 m)) _) := HPF
   go_wp2_with fail
   go_meet
   exact ⟨_, _, rfl, rfl, HPG.out⟩
 case rest =>
 obtain ⟨WF8, vF8, rfl, rfl, hpf⟩ := hcut
 rw [← HHB0.out] at hpf
 clear HHB0 HCH
 clear hb
 obtain ⟨A8, hA⟩ : ∃ A, A7 ++ aR (hasL (nmM m.k) 98) (lcu 98 m) = A := ⟨_, rfl⟩
 have HN2 : Hid (A8.length ≤ 64009) := Lib.hid (by
  rw [← hA, List.length_append]
  have h1 := HN.out
  have h2 := aR_len (h := hasL (nmM m.k) 98) (HLB.out 98 (by unfold nine; decide))
  omega)
 rw [hA] at HEQ hpf
 clear hA HN HP
 have HN := HN2
 have HP := Lib.hid hpf
 clear HN2 hpf
 obtain ⟨hb, hhb⟩ : ∃ h, hasL (nmM m.k) 105 = h := ⟨_, rfl⟩
 have HCH : Hid (∀ X : World, Calls Try.prog 119 #[.int .i64 m.k, .int .u8 105] X fun e w' => e = .returned (.bool hb) ∧ X = w') := Lib.hid (fun X => by rw [← hhb]; exact CH.out 105 X)
 have HHB0 := Lib.hid hhb
 clear hhb
 go_upto_if 96 with (go_at_call 119; refine (HCH.out _).mono ?_; rintro e wx ⟨rfl, rfl⟩)
 go_cut [3] (fun v wx => ∃ (W : World) (v' : Value), W = wx ∧ v' = v ∧ PkW (w.heap.size + 1) W1 v' (A8 ++ aR hb (lcu 105 m)) W)
 case first =>
  have HHB := HHB0
  clear HHB0 HCH
  obtain ⟨WI, hWI⟩ : ∃ W, W = WF8 := ⟨_, rfl⟩
  subst hWI
  cases hb with
  | false =>
   go_wp2_with fail
   go_meet
   exact ⟨_, _, rfl, rfl, by rw [show aR false (lcu 105 m) = [] from rfl, List.append_nil]; exact HP.out⟩
  | true =>
   have hmi : mayI m.item = true := HKP.out 105 HHB.out
   obtain ⟨IL, hIL⟩ : ∃ L, itL m.item s2 = L := ⟨_, rfl⟩
   have HRI : Hid (WI.rangeAt w.heap.size 22 IL) := Lib.hid (by rw [← hIL]; exact (HMA.out _ HP.out.below).r22)
   have HII : Hid ((Try.prog.info? 79).map (·.size) = some IL.length) := Lib.hid (by rw [← hIL, itL_len HOK.out.item.data]; exact infoIt)
   have CI := packItem_any m.item HOK.out.item hmi s2 WI (HD2.out.below (HB1.out.trans (HP.out.below.mono (Nat.le_succ _))))
   rw [hIL] at CI
   have HCI := Lib.hid CI
   have HIB : Hid ((itB m.item).length ≤ 8000) := Lib.hid (HLB.out 105 (by unfold nine; decide))
   clear CI hIL hmi
   go_wp2_with (refine wpList_load_mid rfl 79 _ rfl w.heap.size 22 rfl IL _ HRI.out Try.underlying79 rfl HII.out ?_)
   refine HCI.out.mono ?_
   rintro e w4 ⟨v4, rfl, ho4, hb4⟩
   have HP4 := Lib.hid (HP.out.mono hb4)
   have HR4 := Lib.hid (Rd.of_own ho4)
   clear ho4 hb4
   have hib := HIB.out
   go_wp2_with (at_builtin; go_must (refine wpList_apps rfl _ _ 24 rfl (w.heap.size + 1) 5 _ 1 1 Try.underlying24 infoByte rfl (by decide) (by decide) _ _ _ rfl HP4.out.own _ _ _ rfl HR4.out (bV_one _) (by have := HN.out; omega) HP4.out.sz ?_); intro v5 w5 ho5 hb5 hg5 hs5 hn5)
   have HPF := Lib.hid (HP4.out.app ho5 rfl hb5)
   clear ho5 hb5 hg5 hs5 hn5
   have HPG : Hid (PkW (w.heap.size + 1) W1 _ (A8 ++ aR true (lcu 105 m)) _) := HPF
   go_wp2_with fail
   go_meet
   exact ⟨_, _, rfl, rfl, HPG.out⟩
 case rest =>
 obtain ⟨WF9, vF9, rfl, rfl, hpf⟩ := hcut
 rw [← HHB0.out] at hpf
 clear HHB0 HCH
 clear hb
 obtain ⟨A9, hA⟩ : ∃ A, A8 ++ aR (hasL (nmM m.k) 105) (lcu 105 m) = A := ⟨_, rfl⟩
 have HN2 : Hid (A9.length ≤ 72009) := Lib.hid (by
  rw [← hA, List.length_append]
  have h1 := HN.out
  have h2 := aR_len (h := hasL (nmM m.k) 105) (HLB.out 105 (by unfold nine; decide))
  omega)
 rw [hA] at HEQ hpf
 clear hA HN HP
 have HN := HN2
 have HP := Lib.hid hpf
 clear HN2 hpf
 go_wp2_with fail
 go_ret
 have h := HP.out
 rw [HEQ.out] at h
 exact ⟨_, rfl, ownsRow_base h.own (Nat.le_succ _), HB1.out.trans (h.below.mono (Nat.le_succ _))⟩
end Go.Proofs.Ytgkelbdgdhkeoaa
