/- The reference's packItem, walked. -/
import Derived.Deep.RegionHeld3
import Derived.Test.YtgkelbdgdhkeoaaSMsg20
import Derived.Test.YtgkelbdgdhkeoaaSMsg6
import Derived.Test.YtgkelbdgdhkeoaaSMsg18
import Derived.Test.YtgkelbdgdhkeoaaSCB
import Derived.Test.YtgkelbdgdhkeoaaSWA
namespace Go.Proofs.Ytgkelbdgdhkeoaa
open Go.RowKit
set_option linter.unusedVariables false
set_option linter.unusedSimpArgs false
open Wire Cmd
/-- What was packed: its row is new; all below is as it was. -/
structure PkW (B : Nat) (W0 : World) (v : Value) (acc : List UInt8) (W : World) : Prop where
 own : W.ownsRow B 5 1 v acc.length (bV acc)
 below : Below B W0 W
 sz : B ≤ W.heap.size
theorem PkW.mono {B : Nat} {W0 : World} {v : Value} {acc : List UInt8} {W W' : World} (h : PkW B W0 v acc W) (hb : Below W.heap.size W W') : PkW B W0 v acc W' :=
 ⟨ownsRow_below h.own hb, h.below.trans (hb.mono h.sz), Nat.le_trans h.sz hb.size⟩
theorem PkW.app {B : Nat} {W0 : World} {v v' : Value} {acc r : List UInt8} {n : Nat} {W W' : World} (h : PkW B W0 v acc W) (ho : W'.ownsRow B 5 1 v' (acc.length + n) (bV acc ++ bV r)) (hn : r.length = n) (hb : Below B W W') : PkW B W0 v' (acc ++ r) W' := by
 subst hn
 exact ⟨by rw [List.length_append, bV_app]; exact ho, h.below.trans hb, Nat.le_trans h.sz hb.size⟩
theorem u8_small {k : Int} (h0 : 0 ≤ k) (h1 : k < 256) : IntKind.u8.wrap k = k := IntWalk.u8_in _ (by omega)
set_option maxRecDepth 100000 in
set_option maxHeartbeats 12800000 in
theorem packItem_any (i : It0) (ok : i.Ok) (hm : mayI i = true) (sl : Value) (w : World) (hd : Rd w 1 sl i.op.data.length (bV i.op.data)) :
  Calls Try.prog 126 #[.agg (itL i sl).toArray] w fun e w' => ∃ v, e = .returned v ∧ w'.ownsRow w.heap.size 5 1 v (itB i).length (bV (itB i)) ∧ Below w.heap.size w w' := by
 have HD := Lib.hid hd
 have HM := mayI_iff.1 hm
 have HB : Hid (Below w.heap.size w (w.alloc (.cells (itL i sl).toArray 79))) := Lib.hid (balloc (Below.refl _ _) _)
 have HI : Hid (IM w (itL i sl) (w.alloc (.cells (itL i sl).toArray 79))) := Lib.hid ⟨heap_alloc_new w _, HB.out⟩
 obtain ⟨AL, hAL⟩ : ∃ L, itL i sl = L := ⟨_, rfl⟩
 rw [hAL] at HI HB ⊢
 have HAL := Lib.hid hAL.symm
 have HOK := Lib.hid ok
 clear hAL ok hd hm
 obtain ⟨W1, hW1⟩ : ∃ W, (w.alloc (.cells AL.toArray 79)).alloc (.cells #[.int .u8 i.k] 5) = W := ⟨_, rfl⟩
 have HAT0 := Lib.hid (it_at (W := w.alloc (.cells AL.toArray 79)) (i := i) (sl := sl) (by rw [← HAL.out]; exact range_block HI.out.1) HOK.out.data)
 have HI1 : Hid (IM w AL W1) := Lib.hid (by rw [← hW1]; exact HI.out.mono (balloc (Below.refl _ _) _))
 have HAT := Lib.hid (it_at (W := W1) (i := i) (sl := sl) (by rw [← HAL.out]; exact range_block HI1.out.1) HOK.out.data)
 have HK : Hid (0 ≤ i.k ∧ i.k < 256 ∧ low (toU i.k) 1 = [UInt8.ofNat i.k.toNat] ∧ [Value.int .u8 i.k] = bV (low (toU i.k) 1)) := Lib.hid (by
  rcases HM with ⟨h, _⟩ | ⟨h, _⟩ | ⟨h, _⟩ | ⟨h, _⟩ | ⟨h, _⟩ <;> rw [h] <;> exact ⟨by decide, by decide, rfl, rfl⟩)
 have HP : Hid (PkW (w.heap.size + 1) W1 (.slice (some ⟨w.heap.size + 1, 0, none⟩) 1 1) (low (toU i.k) 1) W1) := Lib.hid (by
  have h := own_new (w.alloc (.cells AL.toArray 79)) (w.heap.size + 1) (by simp) 5 [.int .u8 i.k] 1 rfl
  rw [World.size_alloc, hW1, HK.out.2.2.2] at h
  refine ⟨?_, Below.refl _ _, by rw [← hW1]; simp⟩
  rw [low_len]
  exact h)
 have HFIN : Hid (∀ v acc X, PkW (w.heap.size + 1) W1 v acc X → X.ownsRow w.heap.size 5 1 v acc.length (bV acc) ∧ Below w.heap.size w X) := Lib.hid (fun v acc X h => ⟨ownsRow_base h.own (Nat.le_succ _), HI1.out.2.trans (h.below.mono (Nat.le_succ _))⟩)
 have hwz := u64_wrap i.size
 have hwb := u64_wrap i.blk
 have hwn := u64_wrap i.blocks
 obtain ⟨k, vol, size, blk, data, op, blocks⟩ := i
 dsimp only at HM HK HP hwz hwb hwn HD
 have c0 := HAT0.out.c0
 have d0 := HAT.out.c0
 have d1 := HAT.out.c1
 have d2 := HAT.out.c2
 have d3 := HAT.out.c3
 have d267 := HAT.out.c267
 dsimp only at c0 d0 d1 d2 d3 d267 hW1
 rw [Nat.zero_add] at d1 d2 d3 d267
 rcases HM with ⟨rfl, hv, _⟩ | ⟨rfl, hv, hs, _⟩ | ⟨rfl, hv, _, hb, _⟩ | ⟨rfl, hv, _, hb, _⟩ | ⟨rfl, _, _, _, _, ho, h1, h2⟩
 ·have hv2 : vol < 4294967296 := hv.2
  have CL : Hid (Calls Try.prog 122 #[.int .u64 (vol : Int), .int .i64 4] W1 fun e w' => ∃ v', e = .returned v' ∧ w'.ownsRow W1.heap.size 5 1 v' 4 (bV (low vol 4)) ∧ Below W1.heap.size W1 w') := Lib.hid (rlow_any vol 4 W1 (by omega) (by omega))
  as_aux_lemma =>
   go_enter Try.func126, Try.ntmps126
   go_wp2_with fail
   clear hW1
   refine CL.out.mono ?_
   rintro e w2 ⟨v2, rfl, ho2, hb2⟩
   have HP2 := Lib.hid (HP.out.mono hb2)
   have HR := Lib.hid (Rd.of_own ho2)
   clear ho2 hb2
   go_wp2_with (at_builtin; go_must (refine wpList_apps rfl _ _ 24 rfl (w.heap.size + 1) 5 _ 1 1 Try.underlying24 infoByte rfl (by decide) (by decide) _ _ _ rfl HP2.out.own _ 4 _ rfl HR.out (bV_one _) (by rw [low_len]; omega) HP2.out.sz ?_); intro v5 w5 ho5 hb5 hg5 hs5 hn5)
   have HP5 := HFIN.out _ _ _ (HP2.out.app ho5 (low_len _ _) hb5)
   go_ret
   exact ⟨v5, rfl, HP5⟩
 ·have hv2 : vol < 4294967296 := hv.2
  have HSS : Hid (∀ X Y, Below (w.heap.size + 1) X Y → (X.cell? ⟨w.heap.size, 1, none⟩ = some (.int .u64 (vol : Int)) ∧ X.cell? ⟨w.heap.size, 2, none⟩ = some (.int .i64 size)) → (Y.cell? ⟨w.heap.size, 1, none⟩ = some (.int .u64 (vol : Int)) ∧ Y.cell? ⟨w.heap.size, 2, none⟩ = some (.int .i64 size))) := Lib.hid (fun X Y hb h => ⟨(hb.cell (p := ⟨w.heap.size, 1, none⟩) (Nat.lt_succ_self _)).trans h.1, (hb.cell (p := ⟨w.heap.size, 2, none⟩) (Nat.lt_succ_self _)).trans h.2⟩)
  as_aux_lemma =>
   go_enter Try.func126, Try.ntmps126
   go_upto_region 9 with fail
   clear hW1 c0 d0
   refine wp_region_held_drew (S := fun X => X.cell? ⟨w.heap.size, 1, none⟩ = some (.int .u64 (vol : Int)) ∧ X.cell? ⟨w.heap.size, 2, none⟩ = some (.int .i64 size)) (by kernel_rfl) ?_ (fun hHeld => ?_)
   ·exact ⟨d1, d2⟩
   have HP0 := HP.out.mono ((Below.refl _ W1).drew)
   refine wpAnyH_take (i := 0) (v := ?_) rfl (by kernel_rfl) (by kernel_rfl) (by kernel_rfl) (fun _ _ _ h => h) (Or.inl ⟨by rfl, ?_⟩) (by assumption) ?_
   rotate_left
   ·(intro w hSw; (try dsimp only at hSw); simp only [List.getElem_toArray, List.getElem_cons_zero, List.getElem_cons_succ]; go_simp; first | done | with_reducible rfl)
   simp only [List.getElem_toArray, List.getElem_cons_zero, List.getElem_cons_succ, Act.put, List.setIfInBounds_toArray, List.set_cons_zero, List.set_cons_succ]
   refine wpAnyH_take (i := 1) (v := ?_) rfl (by kernel_rfl) (by kernel_rfl) (by kernel_rfl) (fun _ _ _ h => h) (Or.inl ⟨by rfl, ?_⟩) (by assumption) ?_
   rotate_left
   ·(intro w hSw; (try dsimp only at hSw); simp only [List.getElem_toArray, List.getElem_cons_zero, List.getElem_cons_succ]; go_simp; first | done | with_reducible rfl)
   simp only [List.getElem_toArray, List.getElem_cons_zero, List.getElem_cons_succ, Act.put, List.setIfInBounds_toArray, List.set_cons_zero, List.set_cons_succ]
   refine wpAnyH_take (i := 2) (v := ?_) rfl (by kernel_rfl) (by kernel_rfl) (by kernel_rfl) (fun _ _ _ h => h) (Or.inl ⟨by rfl, ?_⟩) (by assumption) ?_
   rotate_left
   ·(intro w hSw; (try dsimp only at hSw); simp only [List.getElem_toArray, List.getElem_cons_zero, List.getElem_cons_succ]; go_simp; first | done | with_reducible rfl)
   simp only [List.getElem_toArray, List.getElem_cons_zero, List.getElem_cons_succ, Act.put, List.setIfInBounds_toArray, List.set_cons_zero, List.set_cons_succ]
   refine wpAnyH_take (i := 5) (v := ?_) rfl (by kernel_rfl) (by kernel_rfl) (by kernel_rfl) (fun _ _ _ h => h) (Or.inl ⟨by rfl, ?_⟩) (by assumption) ?_
   rotate_left
   ·(intro w hSw; (try dsimp only at hSw); simp only [List.getElem_toArray, List.getElem_cons_zero, List.getElem_cons_succ]; go_simp; first | done | with_reducible rfl)
   simp only [List.getElem_toArray, List.getElem_cons_zero, List.getElem_cons_succ, Act.put, List.setIfInBounds_toArray, List.set_cons_zero, List.set_cons_succ]
   refine wpAnyH_take (i := 6) (v := ?_) rfl (by kernel_rfl) (by kernel_rfl) (by kernel_rfl) (fun _ _ _ h => h) (Or.inl ⟨by rfl, ?_⟩) (by assumption) ?_
   rotate_left
   ·(intro w hSw; (try dsimp only at hSw); simp only [List.getElem_toArray, List.getElem_cons_zero, List.getElem_cons_succ]; go_simp; first | done | with_reducible rfl)
   simp only [List.getElem_toArray, List.getElem_cons_zero, List.getElem_cons_succ, Act.put, List.setIfInBounds_toArray, List.set_cons_zero, List.set_cons_succ]
   refine wpAnyH_take (i := 7) (v := ?_) rfl (by kernel_rfl) (by kernel_rfl) (by kernel_rfl) (fun _ _ _ h => h) (Or.inl ⟨by rfl, ?_⟩) (by assumption) ?_
   rotate_left
   ·(intro w hSw; (try dsimp only at hSw); simp only [List.getElem_toArray, List.getElem_cons_zero, List.getElem_cons_succ]; go_simp; first | done | with_reducible rfl)
   simp only [List.getElem_toArray, List.getElem_cons_zero, List.getElem_cons_succ, Act.put, List.setIfInBounds_toArray, List.set_cons_zero, List.set_cons_succ]
   refine wpAnyH_ready (rs := [3]) (by kernel_rfl) (by simp) ?_
   refine AllReadyH.cons rfl (fun K hK => ?_) AllReadyH.nil
   simp only [List.getElem_toArray, List.getElem_cons_zero, List.getElem_cons_succ]
   go_simp
   refine (rlow_any vol 4 _ (by omega) (by omega)).mono ?_
   rintro e w2 ⟨v2, rfl, ho2, hb2⟩
   dsimp only
   refine hK.out _ _ ?_ (fun hHeld => ?_)
   ·exact HSS.out _ _ (hb2.mono HP0.sz) hHeld
   clear hK K
   try simp only [Act.put, List.setIfInBounds_toArray, List.set_cons_zero, List.set_cons_succ]
   have HP2 := HP0.mono hb2
   refine wpAnyH_ready (rs := [4]) (by kernel_rfl) (by simp) ?_
   refine AllReadyH.cons rfl (fun K hK => ?_) AllReadyH.nil
   simp only [List.getElem_toArray, List.getElem_cons_zero, List.getElem_cons_succ]
   rw [if_pos (by rfl)]
   refine wp_apps _ _ 24 rfl (w.heap.size + 1) 5 _ 1 1 Try.underlying24 infoByte rfl (by decide) (by decide) _ _ _ (by rfl) HP2.own _ 4 _ (by rfl) (Rd.of_own ho2) (bV_one _) (by rw [low_len]; omega) HP2.sz ?_
   intro v5 w5 ho5 hb5 hg5 hs5 hn5
   refine hK.out _ _ ?_ (fun hHeld => ?_)
   ·exact HSS.out _ _ hb5 hHeld
   clear hK K
   try simp only [Act.put, List.setIfInBounds_toArray, List.set_cons_zero, List.set_cons_succ]
   have HP5 := HP2.app ho5 (low_len _ _) hb5
   refine wpAnyH_ready (rs := [8]) (by kernel_rfl) (by simp) ?_
   refine AllReadyH.cons rfl (fun K hK => ?_) AllReadyH.nil
   simp only [List.getElem_toArray, List.getElem_cons_zero, List.getElem_cons_succ]
   go_simp
   refine (rlow_any (toU size) 2 _ (u64_lt _) (by omega)).mono ?_
   rintro e w6 ⟨v6, rfl, ho6, hb6⟩
   dsimp only
   refine hK.out _ _ ?_ (fun hHeld => ?_)
   ·exact HSS.out _ _ (hb6.mono HP5.sz) hHeld
   clear hK K
   try simp only [Act.put, List.setIfInBounds_toArray, List.set_cons_zero, List.set_cons_succ]
   have HP6 := HP5.mono hb6
   refine wpAnyH_ready (rs := [9]) (by kernel_rfl) (by simp) ?_
   refine AllReadyH.cons rfl (fun K hK => ?_) AllReadyH.nil
   simp only [List.getElem_toArray, List.getElem_cons_zero, List.getElem_cons_succ]
   rw [if_pos (by rfl)]
   refine wp_apps _ _ 24 rfl (w.heap.size + 1) 5 _ 1 1 Try.underlying24 infoByte rfl (by decide) (by decide) _ _ _ (by rfl) HP6.own _ 2 _ (by rfl) (Rd.of_own ho6) (bV_one _) (by rw [List.length_append, low_len, low_len]; omega) HP6.sz ?_
   intro v7 w7 ho7 hb7 hg7 hs7 hn7
   refine hK.out _ _ ?_ (fun hHeld => ?_)
   ·exact HSS.out _ _ hb7 hHeld
   clear hK K
   try simp only [Act.put, List.setIfInBounds_toArray, List.set_cons_zero, List.set_cons_succ]
   have HP7 := Lib.hid (HP6.app ho7 (low_len _ _) hb7)
   refine wpAnyH_take (i := 10) (v := ?_) rfl (by kernel_rfl) (by kernel_rfl) (by kernel_rfl) (fun _ _ _ h => h) (Or.inl ⟨by rfl, ?_⟩) (by assumption) ?_
   rotate_left
   ·(intro w hSw; (try dsimp only at hSw); simp only [List.getElem_toArray, List.getElem_cons_zero, List.getElem_cons_succ]; go_simp; first | done | with_reducible rfl)
   simp only [List.getElem_toArray, List.getElem_cons_zero, List.getElem_cons_succ, Act.put, List.setIfInBounds_toArray, List.set_cons_zero, List.set_cons_succ]
   refine wpAnyH_done (by kernel_rfl) ?_ _
   clear ho2 hb2 hg5 hs5 hn5 ho5 hb5 ho6 hb6 ho7 hb7 hg7 hs7 hn7 HP0 HP2 HP5 HP6 hHeld
   go_wp2_with fail
   go_ret
   have h := HFIN.out _ _ _ HP7.out
   rw [List.append_assoc] at h
   exact ⟨v7, rfl, h⟩
 ·have hv2 : vol < 4294967296 := hv.2
  have HK0 : Hid (W1.cell? ⟨w.heap.size, 0, none⟩ = some (.int .i64 3)) := Lib.hid d0
  have HSS : Hid (∀ X Y, Below (w.heap.size + 1) X Y → (X.cell? ⟨w.heap.size, 1, none⟩ = some (.int .u64 (vol : Int)) ∧ X.cell? ⟨w.heap.size, 3, none⟩ = some (.int .i64 blk)) → (Y.cell? ⟨w.heap.size, 1, none⟩ = some (.int .u64 (vol : Int)) ∧ Y.cell? ⟨w.heap.size, 3, none⟩ = some (.int .i64 blk))) := Lib.hid (fun X Y hb h => ⟨(hb.cell (p := ⟨w.heap.size, 1, none⟩) (Nat.lt_succ_self _)).trans h.1, (hb.cell (p := ⟨w.heap.size, 3, none⟩) (Nat.lt_succ_self _)).trans h.2⟩)
  as_aux_lemma =>
   go_enter Try.func126, Try.ntmps126
   go_upto_region 10 with fail
   clear hW1 c0 d0
   refine wp_region_held_drew (S := fun X => X.cell? ⟨w.heap.size, 1, none⟩ = some (.int .u64 (vol : Int)) ∧ X.cell? ⟨w.heap.size, 3, none⟩ = some (.int .i64 blk)) (by kernel_rfl) ?_ (fun hHeld => ?_)
   ·exact ⟨d1, d3⟩
   have HP0 := HP.out.mono ((Below.refl _ W1).drew)
   refine wpAnyH_take (i := 0) (v := ?_) rfl (by kernel_rfl) (by kernel_rfl) (by kernel_rfl) (fun _ _ _ h => h) (Or.inl ⟨by rfl, ?_⟩) (by assumption) ?_
   rotate_left
   ·(intro w hSw; (try dsimp only at hSw); simp only [List.getElem_toArray, List.getElem_cons_zero, List.getElem_cons_succ]; go_simp; first | done | with_reducible rfl)
   simp only [List.getElem_toArray, List.getElem_cons_zero, List.getElem_cons_succ, Act.put, List.setIfInBounds_toArray, List.set_cons_zero, List.set_cons_succ]
   refine wpAnyH_take (i := 1) (v := ?_) rfl (by kernel_rfl) (by kernel_rfl) (by kernel_rfl) (fun _ _ _ h => h) (Or.inl ⟨by rfl, ?_⟩) (by assumption) ?_
   rotate_left
   ·(intro w hSw; (try dsimp only at hSw); simp only [List.getElem_toArray, List.getElem_cons_zero, List.getElem_cons_succ]; go_simp; first | done | with_reducible rfl)
   simp only [List.getElem_toArray, List.getElem_cons_zero, List.getElem_cons_succ, Act.put, List.setIfInBounds_toArray, List.set_cons_zero, List.set_cons_succ]
   refine wpAnyH_take (i := 2) (v := ?_) rfl (by kernel_rfl) (by kernel_rfl) (by kernel_rfl) (fun _ _ _ h => h) (Or.inl ⟨by rfl, ?_⟩) (by assumption) ?_
   rotate_left
   ·(intro w hSw; (try dsimp only at hSw); simp only [List.getElem_toArray, List.getElem_cons_zero, List.getElem_cons_succ]; go_simp; first | done | with_reducible rfl)
   simp only [List.getElem_toArray, List.getElem_cons_zero, List.getElem_cons_succ, Act.put, List.setIfInBounds_toArray, List.set_cons_zero, List.set_cons_succ]
   refine wpAnyH_take (i := 5) (v := ?_) rfl (by kernel_rfl) (by kernel_rfl) (by kernel_rfl) (fun _ _ _ h => h) (Or.inl ⟨by rfl, ?_⟩) (by assumption) ?_
   rotate_left
   ·(intro w hSw; (try dsimp only at hSw); simp only [List.getElem_toArray, List.getElem_cons_zero, List.getElem_cons_succ]; go_simp; first | done | with_reducible rfl)
   simp only [List.getElem_toArray, List.getElem_cons_zero, List.getElem_cons_succ, Act.put, List.setIfInBounds_toArray, List.set_cons_zero, List.set_cons_succ]
   refine wpAnyH_take (i := 6) (v := ?_) rfl (by kernel_rfl) (by kernel_rfl) (by kernel_rfl) (fun _ _ _ h => h) (Or.inl ⟨by rfl, ?_⟩) (by assumption) ?_
   rotate_left
   ·(intro w hSw; (try dsimp only at hSw); simp only [List.getElem_toArray, List.getElem_cons_zero, List.getElem_cons_succ]; go_simp; first | done | with_reducible rfl)
   simp only [List.getElem_toArray, List.getElem_cons_zero, List.getElem_cons_succ, Act.put, List.setIfInBounds_toArray, List.set_cons_zero, List.set_cons_succ]
   refine wpAnyH_take (i := 7) (v := ?_) rfl (by kernel_rfl) (by kernel_rfl) (by kernel_rfl) (fun _ _ _ h => h) (Or.inl ⟨by rfl, ?_⟩) (by assumption) ?_
   rotate_left
   ·(intro w hSw; (try dsimp only at hSw); simp only [List.getElem_toArray, List.getElem_cons_zero, List.getElem_cons_succ]; go_simp; first | done | with_reducible rfl)
   simp only [List.getElem_toArray, List.getElem_cons_zero, List.getElem_cons_succ, Act.put, List.setIfInBounds_toArray, List.set_cons_zero, List.set_cons_succ]
   refine wpAnyH_ready (rs := [3]) (by kernel_rfl) (by simp) ?_
   refine AllReadyH.cons rfl (fun K hK => ?_) AllReadyH.nil
   simp only [List.getElem_toArray, List.getElem_cons_zero, List.getElem_cons_succ]
   go_simp
   refine (rlow_any vol 4 _ (by omega) (by omega)).mono ?_
   rintro e w2 ⟨v2, rfl, ho2, hb2⟩
   dsimp only
   refine hK.out _ _ ?_ (fun hHeld => ?_)
   ·exact HSS.out _ _ (hb2.mono HP0.sz) hHeld
   clear hK K
   try simp only [Act.put, List.setIfInBounds_toArray, List.set_cons_zero, List.set_cons_succ]
   have HP2 := HP0.mono hb2
   refine wpAnyH_ready (rs := [4]) (by kernel_rfl) (by simp) ?_
   refine AllReadyH.cons rfl (fun K hK => ?_) AllReadyH.nil
   simp only [List.getElem_toArray, List.getElem_cons_zero, List.getElem_cons_succ]
   rw [if_pos (by rfl)]
   refine wp_apps _ _ 24 rfl (w.heap.size + 1) 5 _ 1 1 Try.underlying24 infoByte rfl (by decide) (by decide) _ _ _ (by rfl) HP2.own _ 4 _ (by rfl) (Rd.of_own ho2) (bV_one _) (by rw [low_len]; omega) HP2.sz ?_
   intro v5 w5 ho5 hb5 hg5 hs5 hn5
   refine hK.out _ _ ?_ (fun hHeld => ?_)
   ·exact HSS.out _ _ hb5 hHeld
   clear hK K
   try simp only [Act.put, List.setIfInBounds_toArray, List.set_cons_zero, List.set_cons_succ]
   have HP5 := HP2.app ho5 (low_len _ _) hb5
   refine wpAnyH_ready (rs := [8]) (by kernel_rfl) (by simp) ?_
   refine AllReadyH.cons rfl (fun K hK => ?_) AllReadyH.nil
   simp only [List.getElem_toArray, List.getElem_cons_zero, List.getElem_cons_succ]
   go_simp
   refine (rlow_any (toU blk) 2 _ (u64_lt _) (by omega)).mono ?_
   rintro e w6 ⟨v6, rfl, ho6, hb6⟩
   dsimp only
   refine hK.out _ _ ?_ (fun hHeld => ?_)
   ·exact HSS.out _ _ (hb6.mono HP5.sz) hHeld
   clear hK K
   try simp only [Act.put, List.setIfInBounds_toArray, List.set_cons_zero, List.set_cons_succ]
   have HP6 := HP5.mono hb6
   refine wpAnyH_ready (rs := [9]) (by kernel_rfl) (by simp) ?_
   refine AllReadyH.cons rfl (fun K hK => ?_) AllReadyH.nil
   simp only [List.getElem_toArray, List.getElem_cons_zero, List.getElem_cons_succ]
   rw [if_pos (by rfl)]
   refine wp_apps _ _ 24 rfl (w.heap.size + 1) 5 _ 1 1 Try.underlying24 infoByte rfl (by decide) (by decide) _ _ _ (by rfl) HP6.own _ 2 _ (by rfl) (Rd.of_own ho6) (bV_one _) (by rw [List.length_append, low_len, low_len]; omega) HP6.sz ?_
   intro v7 w7 ho7 hb7 hg7 hs7 hn7
   refine hK.out _ _ ?_ (fun hHeld => ?_)
   ·exact HSS.out _ _ hb7 hHeld
   clear hK K
   try simp only [Act.put, List.setIfInBounds_toArray, List.set_cons_zero, List.set_cons_succ]
   have HP7 := Lib.hid (HP6.app ho7 (low_len _ _) hb7)
   refine wpAnyH_take (i := 10) (v := ?_) rfl (by kernel_rfl) (by kernel_rfl) (by kernel_rfl) (fun _ _ _ h => h) (Or.inl ⟨by rfl, ?_⟩) (by assumption) ?_
   rotate_left
   ·(intro w hSw; (try dsimp only at hSw); simp only [List.getElem_toArray, List.getElem_cons_zero, List.getElem_cons_succ]; go_simp; first | done | with_reducible rfl)
   simp only [List.getElem_toArray, List.getElem_cons_zero, List.getElem_cons_succ, Act.put, List.setIfInBounds_toArray, List.set_cons_zero, List.set_cons_succ]
   refine wpAnyH_done (by kernel_rfl) ?_ _
   clear ho2 hb2 hg5 hs5 hn5 ho5 hb5 ho6 hb6 ho7 hb7 hg7 hs7 hn7 HP0 HP2 HP5 HP6 hHeld
   have e0 : w7.cell? ⟨w.heap.size, 0, none⟩ = some (.int .i64 3) := (HP7.out.below.cell (p := ⟨w.heap.size, 0, none⟩) (Nat.lt_succ_self _)).trans HK0.out
   go_wp2_with fail
   go_ret
   have h := HFIN.out _ _ _ HP7.out
   rw [List.append_assoc] at h
   exact ⟨v7, rfl, h⟩
 ·have hv2 : vol < 4294967296 := hv.2
  have HRB : Hid (∀ X, Below (w.heap.size + 1) W1 X → X.rangeAt w.heap.size 4 (bV data)) := Lib.hid (fun X hX => by
   have h := HAT.out.r4
   rw [Nat.zero_add] at h
   exact rangeLow h (Nat.lt_succ_self _) hX)
  have hd256 : data.length = 256 := HOK.out.data
  have HK0 : Hid (W1.cell? ⟨w.heap.size, 0, none⟩ = some (.int .i64 4)) := Lib.hid d0
  have HSS : Hid (∀ X Y, Below (w.heap.size + 1) X Y → (X.cell? ⟨w.heap.size, 1, none⟩ = some (.int .u64 (vol : Int)) ∧ X.cell? ⟨w.heap.size, 3, none⟩ = some (.int .i64 blk)) → (Y.cell? ⟨w.heap.size, 1, none⟩ = some (.int .u64 (vol : Int)) ∧ Y.cell? ⟨w.heap.size, 3, none⟩ = some (.int .i64 blk))) := Lib.hid (fun X Y hb h => ⟨(hb.cell (p := ⟨w.heap.size, 1, none⟩) (Nat.lt_succ_self _)).trans h.1, (hb.cell (p := ⟨w.heap.size, 3, none⟩) (Nat.lt_succ_self _)).trans h.2⟩)
  as_aux_lemma =>
   go_enter Try.func126, Try.ntmps126
   go_upto_region 10 with fail
   clear hW1 c0 d0
   refine wp_region_held_drew (S := fun X => X.cell? ⟨w.heap.size, 1, none⟩ = some (.int .u64 (vol : Int)) ∧ X.cell? ⟨w.heap.size, 3, none⟩ = some (.int .i64 blk)) (by kernel_rfl) ?_ (fun hHeld => ?_)
   ·exact ⟨d1, d3⟩
   have HP0 := HP.out.mono ((Below.refl _ W1).drew)
   refine wpAnyH_take (i := 0) (v := ?_) rfl (by kernel_rfl) (by kernel_rfl) (by kernel_rfl) (fun _ _ _ h => h) (Or.inl ⟨by rfl, ?_⟩) (by assumption) ?_
   rotate_left
   ·(intro w hSw; (try dsimp only at hSw); simp only [List.getElem_toArray, List.getElem_cons_zero, List.getElem_cons_succ]; go_simp; first | done | with_reducible rfl)
   simp only [List.getElem_toArray, List.getElem_cons_zero, List.getElem_cons_succ, Act.put, List.setIfInBounds_toArray, List.set_cons_zero, List.set_cons_succ]
   refine wpAnyH_take (i := 1) (v := ?_) rfl (by kernel_rfl) (by kernel_rfl) (by kernel_rfl) (fun _ _ _ h => h) (Or.inl ⟨by rfl, ?_⟩) (by assumption) ?_
   rotate_left
   ·(intro w hSw; (try dsimp only at hSw); simp only [List.getElem_toArray, List.getElem_cons_zero, List.getElem_cons_succ]; go_simp; first | done | with_reducible rfl)
   simp only [List.getElem_toArray, List.getElem_cons_zero, List.getElem_cons_succ, Act.put, List.setIfInBounds_toArray, List.set_cons_zero, List.set_cons_succ]
   refine wpAnyH_take (i := 2) (v := ?_) rfl (by kernel_rfl) (by kernel_rfl) (by kernel_rfl) (fun _ _ _ h => h) (Or.inl ⟨by rfl, ?_⟩) (by assumption) ?_
   rotate_left
   ·(intro w hSw; (try dsimp only at hSw); simp only [List.getElem_toArray, List.getElem_cons_zero, List.getElem_cons_succ]; go_simp; first | done | with_reducible rfl)
   simp only [List.getElem_toArray, List.getElem_cons_zero, List.getElem_cons_succ, Act.put, List.setIfInBounds_toArray, List.set_cons_zero, List.set_cons_succ]
   refine wpAnyH_take (i := 5) (v := ?_) rfl (by kernel_rfl) (by kernel_rfl) (by kernel_rfl) (fun _ _ _ h => h) (Or.inl ⟨by rfl, ?_⟩) (by assumption) ?_
   rotate_left
   ·(intro w hSw; (try dsimp only at hSw); simp only [List.getElem_toArray, List.getElem_cons_zero, List.getElem_cons_succ]; go_simp; first | done | with_reducible rfl)
   simp only [List.getElem_toArray, List.getElem_cons_zero, List.getElem_cons_succ, Act.put, List.setIfInBounds_toArray, List.set_cons_zero, List.set_cons_succ]
   refine wpAnyH_take (i := 6) (v := ?_) rfl (by kernel_rfl) (by kernel_rfl) (by kernel_rfl) (fun _ _ _ h => h) (Or.inl ⟨by rfl, ?_⟩) (by assumption) ?_
   rotate_left
   ·(intro w hSw; (try dsimp only at hSw); simp only [List.getElem_toArray, List.getElem_cons_zero, List.getElem_cons_succ]; go_simp; first | done | with_reducible rfl)
   simp only [List.getElem_toArray, List.getElem_cons_zero, List.getElem_cons_succ, Act.put, List.setIfInBounds_toArray, List.set_cons_zero, List.set_cons_succ]
   refine wpAnyH_take (i := 7) (v := ?_) rfl (by kernel_rfl) (by kernel_rfl) (by kernel_rfl) (fun _ _ _ h => h) (Or.inl ⟨by rfl, ?_⟩) (by assumption) ?_
   rotate_left
   ·(intro w hSw; (try dsimp only at hSw); simp only [List.getElem_toArray, List.getElem_cons_zero, List.getElem_cons_succ]; go_simp; first | done | with_reducible rfl)
   simp only [List.getElem_toArray, List.getElem_cons_zero, List.getElem_cons_succ, Act.put, List.setIfInBounds_toArray, List.set_cons_zero, List.set_cons_succ]
   refine wpAnyH_ready (rs := [3]) (by kernel_rfl) (by simp) ?_
   refine AllReadyH.cons rfl (fun K hK => ?_) AllReadyH.nil
   simp only [List.getElem_toArray, List.getElem_cons_zero, List.getElem_cons_succ]
   go_simp
   refine (rlow_any vol 4 _ (by omega) (by omega)).mono ?_
   rintro e w2 ⟨v2, rfl, ho2, hb2⟩
   dsimp only
   refine hK.out _ _ ?_ (fun hHeld => ?_)
   ·exact HSS.out _ _ (hb2.mono HP0.sz) hHeld
   clear hK K
   try simp only [Act.put, List.setIfInBounds_toArray, List.set_cons_zero, List.set_cons_succ]
   have HP2 := HP0.mono hb2
   refine wpAnyH_ready (rs := [4]) (by kernel_rfl) (by simp) ?_
   refine AllReadyH.cons rfl (fun K hK => ?_) AllReadyH.nil
   simp only [List.getElem_toArray, List.getElem_cons_zero, List.getElem_cons_succ]
   rw [if_pos (by rfl)]
   refine wp_apps _ _ 24 rfl (w.heap.size + 1) 5 _ 1 1 Try.underlying24 infoByte rfl (by decide) (by decide) _ _ _ (by rfl) HP2.own _ 4 _ (by rfl) (Rd.of_own ho2) (bV_one _) (by rw [low_len]; omega) HP2.sz ?_
   intro v5 w5 ho5 hb5 hg5 hs5 hn5
   refine hK.out _ _ ?_ (fun hHeld => ?_)
   ·exact HSS.out _ _ hb5 hHeld
   clear hK K
   try simp only [Act.put, List.setIfInBounds_toArray, List.set_cons_zero, List.set_cons_succ]
   have HP5 := HP2.app ho5 (low_len _ _) hb5
   refine wpAnyH_ready (rs := [8]) (by kernel_rfl) (by simp) ?_
   refine AllReadyH.cons rfl (fun K hK => ?_) AllReadyH.nil
   simp only [List.getElem_toArray, List.getElem_cons_zero, List.getElem_cons_succ]
   go_simp
   refine (rlow_any (toU blk) 2 _ (u64_lt _) (by omega)).mono ?_
   rintro e w6 ⟨v6, rfl, ho6, hb6⟩
   dsimp only
   refine hK.out _ _ ?_ (fun hHeld => ?_)
   ·exact HSS.out _ _ (hb6.mono HP5.sz) hHeld
   clear hK K
   try simp only [Act.put, List.setIfInBounds_toArray, List.set_cons_zero, List.set_cons_succ]
   have HP6 := HP5.mono hb6
   refine wpAnyH_ready (rs := [9]) (by kernel_rfl) (by simp) ?_
   refine AllReadyH.cons rfl (fun K hK => ?_) AllReadyH.nil
   simp only [List.getElem_toArray, List.getElem_cons_zero, List.getElem_cons_succ]
   rw [if_pos (by rfl)]
   refine wp_apps _ _ 24 rfl (w.heap.size + 1) 5 _ 1 1 Try.underlying24 infoByte rfl (by decide) (by decide) _ _ _ (by rfl) HP6.own _ 2 _ (by rfl) (Rd.of_own ho6) (bV_one _) (by rw [List.length_append, low_len, low_len]; omega) HP6.sz ?_
   intro v7 w7 ho7 hb7 hg7 hs7 hn7
   refine hK.out _ _ ?_ (fun hHeld => ?_)
   ·exact HSS.out _ _ hb7 hHeld
   clear hK K
   try simp only [Act.put, List.setIfInBounds_toArray, List.set_cons_zero, List.set_cons_succ]
   have HP7 := Lib.hid (HP6.app ho7 (low_len _ _) hb7)
   refine wpAnyH_take (i := 10) (v := ?_) rfl (by kernel_rfl) (by kernel_rfl) (by kernel_rfl) (fun _ _ _ h => h) (Or.inl ⟨by rfl, ?_⟩) (by assumption) ?_
   rotate_left
   ·(intro w hSw; (try dsimp only at hSw); simp only [List.getElem_toArray, List.getElem_cons_zero, List.getElem_cons_succ]; go_simp; first | done | with_reducible rfl)
   simp only [List.getElem_toArray, List.getElem_cons_zero, List.getElem_cons_succ, Act.put, List.setIfInBounds_toArray, List.set_cons_zero, List.set_cons_succ]
   refine wpAnyH_done (by kernel_rfl) ?_ _
   clear ho2 hb2 hg5 hs5 hn5 ho5 hb5 ho6 hb6 ho7 hb7 hg7 hs7 hn7 HP0 HP2 HP5 HP6 hHeld
   have e0 : w7.cell? ⟨w.heap.size, 0, none⟩ = some (.int .i64 4) := (HP7.out.below.cell (p := ⟨w.heap.size, 0, none⟩) (Nat.lt_succ_self _)).trans HK0.out
   have HR := Lib.hid (rd_range (HRB.out w7 HP7.out.below) HP7.out.sz hd256 (by omega))
   have hsz7 : w.heap.size < w7.heap.size := HP7.out.sz
   go_wp2_with (at_builtin; go_must (refine wpList_apps rfl _ _ 24 rfl (w.heap.size + 1) 5 _ 1 1 Try.underlying24 infoByte rfl (by decide) (by decide) _ _ _ rfl HP7.out.own _ 256 _ rfl HR.out (bV_one _) (by rw [List.length_append, List.length_append, low_len, low_len, low_len]; omega) HP7.out.sz ?_); intro v8 w8 ho8 hb8 hg8 hs8 hn8)
   have h := HFIN.out _ _ _ (HP7.out.app ho8 hd256 hb8)
   rw [List.append_assoc, List.append_assoc] at h
   go_ret
   exact ⟨v8, rfl, h⟩
 ·obtain ⟨u0, u1, u2, u3, u4, u5, u6⟩ := op_at HAT.out.r260
  dsimp only at u0 u1 u2 u3 u4 u5 u6
  simp only [Nat.zero_add, Nat.reduceAdd] at u0 u1 u2 u3 u4 u5 u6
  have hbl := opB_len ho
  have hdl := mayO_dlen ho
  change op.data.length ≤ 2048 at hdl
  obtain ⟨bs, hbs, hpk⟩ := packO_some ho
  have hbq := opB_of hbs
  rw [hbq] at hbl
  have CP : Hid (Calls Try.prog 27 #[.agg (oC op sl)] W1 fun e w' => ∃ v', e = .returned v' ∧ w'.ownsRow W1.heap.size 5 1 v' bs.length (bV bs) ∧ Below W1.heap.size W1 w') := Lib.hid (rpackO_any op HOK.out.op sl W1 (HD.out.below HI1.out.2) (by omega) bs hpk)
  have HIB : Hid (itB ⟨5, vol, size, blk, data, op, blocks⟩ = low (toU 5) 1 ++ ((low bs.length 4 ++ bs) ++ low (toU blocks) 4)) := Lib.hid (by
   rw [← hbq]; rfl)
  have HBL := Lib.hid hbl
  have HSB : Hid (∀ X, Below (w.heap.size + 1) W1 X → X.cell? ⟨w.heap.size, 267, none⟩ = some (.int .i64 blocks)) := Lib.hid (fun X hX => (hX.cell (p := ⟨w.heap.size, 267, none⟩) (Nat.lt_succ_self _)).trans d267)
  unfold oC at CP
  clear hbs hpk hbq hbl hdl d1 d2 d3 d267
  as_aux_lemma =>
   go_enter Try.func126, Try.ntmps126
   go_wp2_with fail
   clear hW1 c0 d0
   refine CP.out.mono ?_
   rintro e w2 ⟨v2, rfl, ho2, hb2⟩
   have HP2 := Lib.hid (HP.out.mono hb2)
   have CBL := Lib.hid (blob19_any bs v2 w2 (Rd.of_own ho2) (by have := HBL.out; omega))
   clear ho2 hb2 u0 u1 u2 u3 u4 u5 u6
   go_wp2_with fail
   refine CBL.out.mono ?_
   rintro e w3 ⟨v3, rfl, ho3, hb3⟩
   have HP3 := Lib.hid (HP2.out.mono hb3)
   have HR := Lib.hid (Rd.of_own ho3)
   have hbl := HBL.out
   clear ho3 hb3
   go_wp2_with (at_builtin; go_must (refine wpList_apps rfl _ _ 24 rfl (w.heap.size + 1) 5 _ 1 1 Try.underlying24 infoByte rfl (by decide) (by decide) _ _ _ rfl HP3.out.own _ (4 + bs.length) _ rfl HR.out (bV_one _) (by rw [low_len]; omega) HP3.out.sz ?_); intro v5 w5 ho5 hb5 hg5 hs5 hn5; have c267 := HSB.out w5 (HP3.out.below.trans hb5))
   have HP5 := Lib.hid (HP3.out.app ho5 (by rw [List.length_append, low_len]) hb5)
   have CL := Lib.hid (rlow_any (toU blocks) 4 w5 (u64_lt _) (by omega))
   clear ho5 hb5 hg5 hs5 hn5
   go_wp2_with fail
   refine CL.out.mono ?_
   rintro e w6 ⟨v6, rfl, ho6, hb6⟩
   have HP6 := Lib.hid (HP5.out.mono hb6)
   have HR6 := Lib.hid (Rd.of_own ho6)
   clear ho6 hb6
   go_wp2_with (at_builtin; go_must (refine wpList_apps rfl _ _ 24 rfl (w.heap.size + 1) 5 _ 1 1 Try.underlying24 infoByte rfl (by decide) (by decide) _ _ _ rfl HP6.out.own _ 4 _ rfl HR6.out (bV_one _) (by rw [List.length_append, low_len, List.length_append, low_len]; omega) HP6.out.sz ?_); intro v7 w7 ho7 hb7 hg7 hs7 hn7)
   have h := HFIN.out _ _ _ (HP6.out.app ho7 (low_len _ _) hb7)
   rw [List.append_assoc] at h
   go_ret
   exact ⟨v7, rfl, by rw [HIB.out]; exact h⟩
end Go.Proofs.Ytgkelbdgdhkeoaa
