import Derived.Test.YtgmahhdnjikdjaaGreatPG16
set_option linter.unusedVariables false
set_option linter.unusedSimpArgs false
/- A page that is none's: page.Of, readPages, store.Open, walked. (Printed by mkrn2.py.) -/
namespace Go.Proofs.YtgmahhdnjikdjaaGreat
open Go.RowKit Wire
set_option linter.unusedVariables false
set_option linter.unusedSimpArgs false
set_option maxRecDepth 100000 in
set_option maxHeartbeats 6400000 in
theorem pof_ne (w : World) (no idx : Nat) (hno : no < 4294967296) (hidx : idx ≤ 255) (b : List UInt8) (hbl : b.length = 256) (cs : List Nat) (hl : cs.length = 120) (hcs : ∀ c ∈ cs, c < 65536) (hpa : ∀ i c, cs[i]? = some c → b[16 + 2 * i]? = some (UInt8.ofNat (c % 256)) ∧ b[16 + 2 * i + 1]? = some (UInt8.ofNat (c / 256 % 256))) (hnb : pageB no idx cs ≠ b) :
  Calls Tryz.prog 137 #[.int .u32 (no : Int), .int .i64 (idx : Int), bA b] w fun e w' => e = .returned (.tuple #[.slice none 0 0, .int .i64 4]) ∧ Below w.heap.size w w' := by
 have HBL := Lib.hid hbl
 have HPA := Lib.hid hpa
 have HOL : Hid ((pageB no idx cs).length = 256) := Lib.hid (pageB_len (by omega))
 have CBK : Hid (∀ X v, Rd X 1 v 120 (cV cs) → Calls Tryz.prog 135 #[.int .u32 (no : Int), .int .i64 (idx : Int), v] X fun e w' => e = .returned (.tuple #[bA (pageB no idx cs), .int .i64 0]) ∧ Below X.heap.size X w') := Lib.hid (fun X v hv => pblock_at X no idx hno hidx v 120 cs hv (by omega) hcs)
 obtain ⟨o, ho⟩ : ∃ o, pageB no idx cs = o := ⟨_, rfl⟩
 rw [ho] at HOL CBK hnb
 have HNB := Lib.hid hnb
 clear ho hnb hbl hpa
 obtain ⟨q, hq⟩ : ∃ q, w.heap.size = q := ⟨_, rfl⟩
 obtain ⟨w1, hw1⟩ : ∃ W, w.alloc (.cells (bV b).toArray 78) = W := ⟨_, rfl⟩
 have hb1 : Below w.heap.size w w1 := by rw [← hw1]; exact balloc (Below.refl _ _) _
 have hx1 : BoxB w1 q b := by unfold BoxB; rw [← hw1, ← hq]; exact heap_alloc_new _ _
 obtain ⟨w2, hw2⟩ : ∃ W, w1.alloc (.cells (cV (List.replicate 120 0)).toArray 172) = W := ⟨_, rfl⟩
 have hb2 : Below w1.heap.size w1 w2 := by rw [← hw2]; exact balloc (Below.refl _ _) _
 obtain ⟨g, hg⟩ : ∃ g, w1.heap.size = g := ⟨_, rfl⟩
 have hmk : (Instr.makeSlice 188 (.int .i64 120) (.int .i64 120)).run Tryz.prog w1 = .ok (.slice (some ⟨g, 0, none⟩) 120 120) w2 := by
  rw [← hw2, ← hg]; kernel_rfl
 have HPO : Hid (POf w w2 q g b cs 0) := Lib.hid ⟨bthn hb1 hb2, (hb2.block _ (Array.getElem?_eq_some_iff.1 hx1).1).trans hx1, by
  show BoxC w2 g (List.replicate 120 0)
  unfold BoxC; rw [← hw2, ← hg]; exact heap_alloc_new _ _⟩
 have HQG : Hid (q ≠ g ∧ w.heap.size ≤ g) := Lib.hid ⟨by have := (Array.getElem?_eq_some_iff.1 hx1).1; omega, by rw [← hg]; exact hb1.size⟩
 have HLN := Lib.hid hl
 rw [show bA b = .agg (bV b).toArray from rfl]
 clear hb1 hx1 hw2 hb2 hg hl
 go_enter Tryz.func137, Tryz.ntmps137
 go_wp2_with fail
 (try rw [hw1, hq])
 clear hw1
 go_loopw [21] (fun v wr => ∃ i : Nat, i ≤ 120 ∧ v = .int .i64 (i : Int) ∧ POf w wr q g b cs i) (fun v _ => 120 - (Go.RowKit.intOf v).toNat)
 case atStart => exact ⟨0, by omega, rfl, HPO.out⟩
 case round =>
  obtain ⟨i, hi, rfl, hpo⟩ := hrel
  have HPO := Lib.hid hpo
  by_cases hlt : i < 120
  ·obtain ⟨c, hc⟩ : ∃ c, cs[i]? = some c := ⟨_, List.getElem?_eq_getElem (by rw [HLN.out]; exact hlt)⟩
   have HC := Lib.hid hc
   obtain ⟨hp1, hp2⟩ := HPA.out i c hc
   have hcb := hcs c (List.mem_of_getElem? hc)
   obtain ⟨lo, hlo⟩ : ∃ x, c % 256 = x := ⟨_, rfl⟩
   obtain ⟨hi8, hhi⟩ : ∃ x, c / 256 = x := ⟨_, rfl⟩
   have hl1 : lo < 256 := by omega
   have hl2 : hi8 < 256 := by omega
   have HOR : Hid (bits .or .u16 (lo : Int) ((hi8 : Int) * 256) = (c : Int)) := Lib.hid (by rw [or16 lo hi8 hl1 hl2]; omega)
   have HE1 : Hid (wr.cell? ⟨q, 16 + 2 * i, none⟩ = some (.int .u8 (lo : Int))) := Lib.hid (cellOf hpo.2.1 (16 + 2 * i) (by have h := bV_get hp1; rw [ofNat_to, hlo] at h; simpa using h))
   have HE2 : Hid (wr.cell? ⟨q, 16 + 2 * i + 1, none⟩ = some (.int .u8 (hi8 : Int))) := Lib.hid (cellOf hpo.2.1 (16 + 2 * i + 1) (by have h := bV_get hp2; rw [ofNat_to, hhi, Nat.mod_eq_of_lt hl2] at h; simpa using h))
   have HQL : Hid (q < wr.heap.size ∧ q ∉ [g]) := Lib.hid ⟨(Array.getElem?_eq_some_iff.1 hpo.2.1).1, fun h => HQG.out.1 (List.mem_singleton.1 h)⟩
   clear hpo hc hp1 hp2 hlo hhi
   have hw1 : IntKind.i64.wrap (2 * (i : Int)) = 2 * (i : Int) := IntWalk.i64_in _ ⟨by omega, by omega⟩
   have hw2 : IntKind.i64.wrap (16 + 2 * (i : Int)) = 16 + 2 * (i : Int) := IntWalk.i64_in _ ⟨by omega, by omega⟩
   have hw3 : IntKind.i64.wrap (16 + 2 * (i : Int) + 1) = 16 + 2 * (i : Int) + 1 := IntWalk.i64_in _ ⟨by omega, by omega⟩
   have hi1 : 0 ≤ 16 + 2 * (i : Int) ∧ 16 + 2 * (i : Int) < 256 := ⟨by omega, by omega⟩
   have hi2 : 0 ≤ 16 + 2 * (i : Int) + 1 ∧ 16 + 2 * (i : Int) + 1 < 256 := ⟨by omega, by omega⟩
   have ht1 : (16 + 2 * (i : Int)).toNat = 16 + 2 * i := by omega
   have ht2 : (16 + 2 * (i : Int) + 1).toNat = 16 + 2 * i + 1 := by omega
   have hm1 : IntKind.u16.wrap (lo : Int) = (lo : Int) := by rw [IntKind.wrap_u16]; omega
   have hm2 : IntKind.u16.wrap (hi8 : Int) = (hi8 : Int) := by rw [IntKind.wrap_u16]; omega
   have hm3 : IntKind.u16.wrap ((hi8 : Int) * 256) = (hi8 : Int) * 256 := by rw [IntKind.wrap_u16]; omega
   go_wp2_with fail
   have HSS : Hid (∀ X, Mods [g] wr X → (X.cell? ⟨q, 16 + 2 * i, none⟩ = some (.int .u8 (lo : Int)) ∧ X.cell? ⟨q, 16 + 2 * i + 1, none⟩ = some (.int .u8 (hi8 : Int))) ∧ Mods [g] wr X) := Lib.hid (fun X hb => ⟨⟨(World.cell?_of_block (hb.block _ (HQL.out.1) (HQL.out.2))).trans (HE1.out), (World.cell?_of_block (hb.block _ (HQL.out.1) (HQL.out.2))).trans (HE2.out)⟩, hb⟩)
   refine wp_region_held_drew (S := fun X => (X.cell? ⟨q, 16 + 2 * i, none⟩ = some (.int .u8 (lo : Int)) ∧ X.cell? ⟨q, 16 + 2 * i + 1, none⟩ = some (.int .u8 (hi8 : Int))) ∧ Mods [g] wr X) (by kernel_rfl) (HSS.out _ (Mods.of_below (Below.refl _ _).drew)) (fun hHeld => ?_)
   have hbe : Below wr.heap.size wr wr.drew := (Below.refl _ _).drew
   obtain ⟨wd, hwd⟩ : ∃ y, wr.drew = y := ⟨_, rfl⟩
   rw [hwd] at hHeld hbe ⊢
   have HBE := Lib.hid hbe
   have HS0 : Hid (wr.heap.size ≤ wd.heap.size) := Lib.hid HBE.out.size
   clear hwd hbe
   refine wpAnyH_take (i := 0) (v := ?_) rfl (by kernel_rfl) (by kernel_rfl) (by kernel_rfl) (fun _ _ _ h => h) (Or.inl ⟨by rfl, ?_⟩) (by assumption) ?_
   rotate_left
   ·(intro w hSw; (try dsimp only at hSw); simp only [List.getElem_toArray, List.getElem_cons_zero, List.getElem_cons_succ]; go_simp; first | done | with_reducible rfl)
   simp only [List.getElem_toArray, List.getElem_cons_zero, List.getElem_cons_succ, Act.put, List.setIfInBounds_toArray, List.set_cons_zero, List.set_cons_succ]
   refine wpAnyH_take (i := 1) (v := ?_) rfl (by kernel_rfl) (by kernel_rfl) (by kernel_rfl) (fun _ _ _ h => h) (Or.inl ⟨by rfl, ?_⟩) (by assumption) ?_
   rotate_left
   ·(intro w hSw; (try dsimp only at hSw); simp only [List.getElem_toArray, List.getElem_cons_zero, List.getElem_cons_succ]; go_simp; first | done | with_reducible rfl)
   simp only [List.getElem_toArray, List.getElem_cons_zero, List.getElem_cons_succ, Act.put, List.setIfInBounds_toArray, List.set_cons_zero, List.set_cons_succ]
   refine wpAnyH_take (i := 2) (v := ?_) rfl (by kernel_rfl) (by kernel_rfl) (by kernel_rfl) (fun _ _ _ h => h) (Or.inl ⟨by rfl, ?_⟩) (by assumption) ?_
   rotate_left
   ·(intro w hSw; (try dsimp only at hSw); simp only [List.getElem_toArray, List.getElem_cons_zero, List.getElem_cons_succ]; go_simp; first | done | with_reducible rfl)
   simp only [List.getElem_toArray, List.getElem_cons_zero, List.getElem_cons_succ, Act.put, List.setIfInBounds_toArray, List.set_cons_zero, List.set_cons_succ]
   refine wpAnyH_take (i := 8) (v := ?_) rfl (by kernel_rfl) (by kernel_rfl) (by kernel_rfl) (fun _ _ _ h => h) (Or.inl ⟨by rfl, ?_⟩) (by assumption) ?_
   rotate_left
   ·(intro w hSw; (try dsimp only at hSw); simp only [List.getElem_toArray, List.getElem_cons_zero, List.getElem_cons_succ]; go_simp; first | done | with_reducible rfl)
   simp only [List.getElem_toArray, List.getElem_cons_zero, List.getElem_cons_succ, Act.put, List.setIfInBounds_toArray, List.set_cons_zero, List.set_cons_succ]
   refine wpAnyH_take (i := 3) (v := ?_) rfl (by kernel_rfl) (by kernel_rfl) (by kernel_rfl) (fun _ _ _ h => h) (Or.inl ⟨by rfl, ?_⟩) (by assumption) ?_
   rotate_left
   ·(intro w hSw; (try dsimp only at hSw); simp only [List.getElem_toArray, List.getElem_cons_zero, List.getElem_cons_succ]; go_simp; first | done | with_reducible rfl)
   simp only [List.getElem_toArray, List.getElem_cons_zero, List.getElem_cons_succ, Act.put, List.setIfInBounds_toArray, List.set_cons_zero, List.set_cons_succ]
   refine wpAnyH_take (i := 9) (v := ?_) rfl (by kernel_rfl) (by kernel_rfl) (by kernel_rfl) (fun _ _ _ h => h) (Or.inl ⟨by rfl, ?_⟩) (by assumption) ?_
   rotate_left
   ·(intro w hSw; (try dsimp only at hSw); simp only [List.getElem_toArray, List.getElem_cons_zero, List.getElem_cons_succ]; go_simp; first | done | with_reducible rfl)
   simp only [List.getElem_toArray, List.getElem_cons_zero, List.getElem_cons_succ, Act.put, List.setIfInBounds_toArray, List.set_cons_zero, List.set_cons_succ]
   refine wpAnyH_take (i := 4) (v := ?_) rfl (by kernel_rfl) (by kernel_rfl) (by kernel_rfl) (fun _ _ _ h => h) (Or.inl ⟨by rfl, ?_⟩) (by assumption) ?_
   rotate_left
   ·(intro w hSw; (try dsimp only at hSw); simp only [List.getElem_toArray, List.getElem_cons_zero, List.getElem_cons_succ]; go_simp; first | done | with_reducible rfl)
   simp only [List.getElem_toArray, List.getElem_cons_zero, List.getElem_cons_succ, Act.put, List.setIfInBounds_toArray, List.set_cons_zero, List.set_cons_succ]
   refine wpAnyH_take (i := 10) (v := ?_) rfl (by kernel_rfl) (by kernel_rfl) (by kernel_rfl) (fun _ _ _ h => h) (Or.inl ⟨by rfl, ?_⟩) (by assumption) ?_
   rotate_left
   ·(intro w hSw; (try dsimp only at hSw); simp only [List.getElem_toArray, List.getElem_cons_zero, List.getElem_cons_succ]; go_simp; first | done | with_reducible rfl)
   simp only [List.getElem_toArray, List.getElem_cons_zero, List.getElem_cons_succ, Act.put, List.setIfInBounds_toArray, List.set_cons_zero, List.set_cons_succ]
   refine wpAnyH_take (i := 5) (v := ?_) rfl (by kernel_rfl) (by kernel_rfl) (by kernel_rfl) (fun _ _ _ h => h) (Or.inl ⟨by rfl, ?_⟩) (by assumption) ?_
   rotate_left
   ·(intro w hSw; (try dsimp only at hSw); simp only [List.getElem_toArray, List.getElem_cons_zero, List.getElem_cons_succ]; go_simp; first | done | with_reducible rfl)
   simp only [List.getElem_toArray, List.getElem_cons_zero, List.getElem_cons_succ, Act.put, List.setIfInBounds_toArray, List.set_cons_zero, List.set_cons_succ]
   refine wpAnyH_take (i := 11) (v := ?_) rfl (by kernel_rfl) (by kernel_rfl) (by kernel_rfl) (fun _ _ _ h => h) (Or.inl ⟨by rfl, ?_⟩) (by assumption) ?_
   rotate_left
   ·(intro w hSw; (try dsimp only at hSw); simp only [List.getElem_toArray, List.getElem_cons_zero, List.getElem_cons_succ]; go_simp; first | done | with_reducible rfl)
   simp only [List.getElem_toArray, List.getElem_cons_zero, List.getElem_cons_succ, Act.put, List.setIfInBounds_toArray, List.set_cons_zero, List.set_cons_succ]
   refine wpAnyH_take (i := 6) (v := ?_) rfl (by kernel_rfl) (by kernel_rfl) (by kernel_rfl) (fun _ _ _ h => h) (Or.inl ⟨by rfl, ?_⟩) (by assumption) ?_
   rotate_left
   ·(intro w hSw; (try dsimp only at hSw); simp only [List.getElem_toArray, List.getElem_cons_zero, List.getElem_cons_succ]; go_simp; first | done | with_reducible rfl)
   simp only [List.getElem_toArray, List.getElem_cons_zero, List.getElem_cons_succ, Act.put, List.setIfInBounds_toArray, List.set_cons_zero, List.set_cons_succ]
   refine wpAnyH_take (i := 12) (v := ?_) rfl (by kernel_rfl) (by kernel_rfl) (by kernel_rfl) (fun _ _ _ h => h) (Or.inl ⟨by rfl, ?_⟩) (by assumption) ?_
   rotate_left
   ·(intro w hSw; (try dsimp only at hSw); simp only [List.getElem_toArray, List.getElem_cons_zero, List.getElem_cons_succ]; go_simp; first | done | with_reducible rfl)
   simp only [List.getElem_toArray, List.getElem_cons_zero, List.getElem_cons_succ, Act.put, List.setIfInBounds_toArray, List.set_cons_zero, List.set_cons_succ]
   refine wpAnyH_take (i := 7) (v := ?_) rfl (by kernel_rfl) (by kernel_rfl) (by kernel_rfl) (fun _ _ _ h => h) (Or.inl ⟨by rfl, ?_⟩) (by assumption) ?_
   rotate_left
   ·(intro w hSw; (try dsimp only at hSw); simp only [List.getElem_toArray, List.getElem_cons_zero, List.getElem_cons_succ]; go_simp; first | done | with_reducible rfl)
   simp only [List.getElem_toArray, List.getElem_cons_zero, List.getElem_cons_succ, Act.put, List.setIfInBounds_toArray, List.set_cons_zero, List.set_cons_succ]
   refine wpAnyH_take (i := 13) (v := ?_) rfl (by kernel_rfl) (by kernel_rfl) (by kernel_rfl) (fun _ _ _ h => h) (Or.inl ⟨by rfl, ?_⟩) (by assumption) ?_
   rotate_left
   ·(intro w hSw; (try dsimp only at hSw); simp only [List.getElem_toArray, List.getElem_cons_zero, List.getElem_cons_succ]; go_simp; first | done | with_reducible rfl)
   simp only [List.getElem_toArray, List.getElem_cons_zero, List.getElem_cons_succ, Act.put, List.setIfInBounds_toArray, List.set_cons_zero, List.set_cons_succ]
   refine wpAnyH_take (i := 14) (v := ?_) rfl (by kernel_rfl) (by kernel_rfl) (by kernel_rfl) (fun _ _ _ h => h) (Or.inl ⟨by rfl, ?_⟩) (by assumption) ?_
   rotate_left
   ·(intro w hSw; (try dsimp only at hSw); simp only [List.getElem_toArray, List.getElem_cons_zero, List.getElem_cons_succ]; go_simp; first | done | with_reducible rfl)
   simp only [List.getElem_toArray, List.getElem_cons_zero, List.getElem_cons_succ, Act.put, List.setIfInBounds_toArray, List.set_cons_zero, List.set_cons_succ]
   refine wpAnyH_take (i := 15) (v := ?_) rfl (by kernel_rfl) (by kernel_rfl) (by kernel_rfl) (fun _ _ _ h => h) (Or.inl ⟨by rfl, ?_⟩) (by assumption) ?_
   rotate_left
   ·(intro w hSw; (try dsimp only at hSw); simp only [List.getElem_toArray, List.getElem_cons_zero, List.getElem_cons_succ]; go_simp; first | done | with_reducible rfl)
   simp only [List.getElem_toArray, List.getElem_cons_zero, List.getElem_cons_succ, Act.put, List.setIfInBounds_toArray, List.set_cons_zero, List.set_cons_succ]
   refine wpAnyH_take (i := 16) (v := .int .u16 (c : Int)) rfl (by kernel_rfl) (by kernel_rfl) (by kernel_rfl) (fun _ _ _ h => h) (Or.inl ⟨by rfl, ?_⟩) (by assumption) ?_
   ·(intro w hSw; simp only [List.getElem_toArray, List.getElem_cons_zero, List.getElem_cons_succ]; (have hor := HOR.out; go_simp; first | done | exact hor | (trace_state; omega)))
   simp only [List.getElem_toArray, List.getElem_cons_zero, List.getElem_cons_succ, Act.put, List.setIfInBounds_toArray, List.set_cons_zero, List.set_cons_succ]
   refine wpAnyH_take (i := 17) (v := ?_) rfl (by kernel_rfl) (by kernel_rfl) (by kernel_rfl) (fun _ _ _ h => h) (Or.inl ⟨by rfl, ?_⟩) (by assumption) ?_
   rotate_left
   ·(intro w hSw; (try dsimp only at hSw); simp only [List.getElem_toArray, List.getElem_cons_zero, List.getElem_cons_succ]; go_simp; first | done | with_reducible rfl)
   simp only [List.getElem_toArray, List.getElem_cons_zero, List.getElem_cons_succ, Act.put, List.setIfInBounds_toArray, List.set_cons_zero, List.set_cons_succ]
   refine wpAnyH_ready (rs := [18]) (by kernel_rfl) (by simp) ?_
   refine AllReadyH.cons rfl (fun K hK => ?_) (AllReadyH.nil)
   obtain ⟨hc18, hf18⟩ := (show BoxC wd g (setL (List.replicate 120 0) 0 (cs.take i)) from (HBE.out.block _ (Array.getElem?_eq_some_iff.1 HPO.out.2.2).1).trans HPO.out.2.2).cell (j := i) (by rw [setL_len, List.length_replicate]; exact hlt)
   simp only [List.getElem_toArray, List.getElem_cons_zero, List.getElem_cons_succ]
   go_simp
   refine hK.out _ _ ?_ (fun hHeld => ?_)
   ·exact HSS.out _ ((Mods.of_below HBE.out).setCell (p := ⟨g, i, none⟩) (List.mem_singleton.2 rfl) _)
   clear hK K
   try simp only [Act.put, List.setIfInBounds_toArray, List.set_cons_zero, List.set_cons_succ]
   refine wpAnyH_done (by kernel_rfl) ?_ _
   have HEND := Lib.hid hHeld.2
   have HSE := Lib.hid hHeld.1
   clear hHeld
   clear HSE HSS HEND
   have HFN := Lib.hid (pof_next HPO.out HBE.out HC.out HQG.out.1 HQG.out.2)
   go_wp2_with fail
   go_roundw
   case rel => exact ⟨i + 1, by omega, by go_num, HFN.out⟩
   case measure => simp [Go.RowKit.intOf]; omega
  ·obtain rfl : i = 120 := by omega
   have hcx : setL (List.replicate 120 0) 0 (cs.take 120) = cs := by
    rw [List.take_of_length_le (by rw [HLN.out]; exact Nat.le_refl _)]
    have e := setL_mid cs [] (List.replicate 120 0) [] (by rw [List.length_replicate, HLN.out])
    rw [List.append_nil, List.append_nil] at e
    exact e
   have HCX : Hid (BoxC wr g cs) := Lib.hid (by have h := hpo.2.2; rw [hcx] at h; exact h)
   have HBX : Hid (BoxB wr q b) := Lib.hid hpo.2.1
   have HBW := Lib.hid hpo.1
   have CB := CBK.out wr _ (HCX.out.rd HLN.out (by omega))
   clear hpo hcx HPO
   go_wp2_with fail
   refine CB.mono ?_
   rintro e w5 ⟨rfl, hb5⟩
   dsimp only
   have HB5 := Lib.hid (bthn HBW.out hb5)
   have HCX5 : Hid (BoxC w5 g cs) := Lib.hid ((hb5.block _ (Array.getElem?_eq_some_iff.1 HCX.out).1).trans HCX.out)
   have HBX5 : Hid (BoxB w5 q b) := Lib.hid ((hb5.block _ (Array.getElem?_eq_some_iff.1 HBX.out).1).trans HBX.out)
   have hro : (bV o).toArray.size = 256 := by rw [List.size_toArray, bV_len, HOL.out]
   have hne : ∀ W, (binOp .neq 78 (bA o) (bA b)).run Tryz.prog W = .ok (.bool true) W := fun W => by
    have h := run_neq_bytes (P := Tryz.prog) W (t := 78) (e := 5) (n := 256) Tryz.underlying78 Tryz.underlying5 rfl rfl o b HOL.out HBL.out
    have h2 : (!(o == b)) = true := by simpa using HNB.out
    rw [h2] at h
    exact h
   rw [show bA b = .agg (bV b).toArray from rfl, show bA o = .agg (bV o).toArray from rfl] at hne
   rw [show bA o = .agg (bV o).toArray from rfl]
   have HIO : Hid ((Tryz.prog.info? 78).map (·.size) = some (bV o).length) := Lib.hid (by rw [bV_len, HOL.out]; exact infoBlk)
   have HIB : Hid ((Tryz.prog.info? 78).map (·.size) = some (bV b).length) := Lib.hid (by rw [bV_len, HBL.out]; exact infoBlk)
   clear CB hb5
   have hst := run_storeNew (P := Tryz.prog) w5 78 Tryz.zeroCells78 (bV o).toArray (by rw [hro]; kernel_rfl) (fun u hu => bV_one o u (by simpa using hu))
   have hb6 : Below w5.heap.size w5 (w5.alloc (.cells (bV o).toArray 78)) := balloc (Below.refl _ _) _
   have HR6 : Hid ((w5.alloc (.cells (bV o).toArray 78)).rangeAt w5.heap.size 0 (bV o)) := Lib.hid (rangeOf (heap_alloc_new w5 _))
   have HQ6 : Hid ((w5.alloc (.cells (bV o).toArray 78)).rangeAt q 0 (bV b)) := Lib.hid (rangeSt (rangeOf HBX5.out) (Array.getElem?_eq_some_iff.1 HBX5.out).1 hb6)
   have HB6 := Lib.hid hb6
   clear hb6
   go_wp2_with (first
    | (refine wpL_load_met (by kernel_rfl) 78 _ rfl w5.heap.size 0 rfl (bV o) _ HR6.out Tryz.underlying78 rfl HIO.out ?_)
    | (refine wpL_load_met (by kernel_rfl) 78 _ rfl q 0 rfl (bV b) _ HQ6.out Tryz.underlying78 rfl HIB.out ?_))
   go_ret2
   rw [← hq]
   exact ⟨rfl, bthn HB5.out HB6.out⟩
theorem zer_get {i : Nat} (h : i < 256) : (zeros 256)[i]? = some 0 := by
 unfold zeros
 rw [List.getElem?_replicate, if_pos h]
theorem page_nz (no : Nat) : pageB no 0 (List.replicate 120 0) ≠ zeros 256 := fun h => by
 have h1 := congrArg (fun l : List UInt8 => (l.drop 4)[0]?) h
 simp only [List.getElem?_drop] at h1
 rw [zer_get (by omega)] at h1
 have h2 : (pageB no 0 (List.replicate 120 0)).drop 4 = pageBody no 0 (List.replicate 120 0) := by unfold pageB; exact sealB_drop _
 rw [← List.getElem?_drop, h2] at h1
 unfold pageBody at h1
 simp at h1
theorem pof_zero (w : World) (no : Nat) (hno : no < 4294967296) : Calls Tryz.prog 137 #[.int .u32 (no : Int), .int .i64 0, bA (zeros 256)] w fun e w' => e = .returned (.tuple #[.slice none 0 0, .int .i64 4]) ∧ Below w.heap.size w w' :=
 pof_ne w no 0 hno (by omega) (zeros 256) List.length_replicate (List.replicate 120 0) List.length_replicate (fun c hc => by rw [List.eq_of_mem_replicate hc]; omega) (fun i c hc => by
  have hi := (List.getElem?_eq_some_iff.1 hc).1
  rw [List.length_replicate] at hi
  obtain rfl : c = 0 := List.eq_of_mem_replicate (List.mem_of_getElem? hc)
  exact ⟨zer_get (by omega), zer_get (by omega)⟩) (page_nz no)
set_option maxRecDepth 100000 in
set_option maxHeartbeats 12800000 in
theorem srp_bad (n0 : Nat) (w : World) (B : Nat) (iv jv : Value) (d : Dk) (h : DkAt n0 w B iv jv d) (s : Su) (m k : Nat) (hsm : s.mt = (m : Int)) (hsk : s.data = (k : Int)) (hpg : s.pages.getD 0 0 < 4294967296) (h1 : 1 ≤ m ∧ m ≤ 1000) (h2 : 1 ≤ k ∧ k ≤ 1000) (P : Nat) (hP : pagesN m + pagesN k = P) (hP6 : P ≤ 6) (hfit : (2 + s.pages.getD 0 0) * 4 + 4 ≤ d.img.length) (hn : d.img.length ≤ 1000000) (hgd : rdB d.img (2 + s.pages.getD 0 0) = zeros 256) :
  Calls Tryz.prog 93 #[.pointer (some ⟨B, 0, none⟩), suV s] w fun e w' => e = .returned (.tuple #[.pointer none, .pointer none, .int .i64 14]) ∧ Below w.heap.size w w' := by
 obtain ⟨w0, hw0⟩ : ∃ W, w.alloc (.cells (suL s).toArray 72) = W := ⟨_, rfl⟩
 have hb0 : Below w.heap.size w w0 := by rw [← hw0]; exact balloc (Below.refl _ _) _
 have hx0 : w0.heap[w.heap.size]? = some (.cells (suL s).toArray 72 (0, 0)) := by rw [← hw0]; exact heap_alloc_new _ _
 obtain ⟨w1, hw1⟩ : ∃ W, w0.alloc (.cells #[.slice none 0 0, .slice none 0 0] 250) = W := ⟨_, rfl⟩
 have hb1 : Below w0.heap.size w0 w1 := by rw [← hw1]; exact balloc (Below.refl _ _) _
 have hx1 : w1.heap[w0.heap.size]? = some (.cells #[.slice none 0 0, .slice none 0 0] 250 (0, 0)) := by rw [← hw1]; exact heap_alloc_new _ _
 obtain ⟨q, hq⟩ : ∃ q, w0.heap.size = q := ⟨_, rfl⟩
 rw [hq] at hx1
 have HQE := Lib.hid hq
 have HX0 : Hid (w1.heap[w.heap.size]? = some (.cells (suL s).toArray 72 (0, 0))) := Lib.hid ((hb1.block _ (Array.getElem?_eq_some_iff.1 hx0).1).trans hx0)
 have HB0 := Lib.hid hb0
 have HB1 : Hid (Below w0.heap.size w0 w1) := Lib.hid hb1
 have HDK := Lib.hid h
 have HX00 := Lib.hid hx0
 have HQL : Hid (w.heap.size < q ∧ q < w1.heap.size) := Lib.hid ⟨by rw [← hq]; exact (Array.getElem?_eq_some_iff.1 hx0).1, (Array.getElem?_eq_some_iff.1 hx1).1⟩
 have CPM0 := pages_any w0 m (by omega)
 have CPD := pages_any w1 k (by omega)
 have c1 := cellOf hx0 1 (v := .int .i64 (m : Int)) (by rw [← hsm]; rfl)
 have c2 := cellOf HX0.out 2 (v := .int .i64 (k : Int)) (by rw [← hsk]; rfl)
 have HNN := Lib.hid hn
 have HPG := Lib.hid hpg
 have HFT := Lib.hid hfit
 have HGA := Lib.hid hgd
 have HSM := Lib.hid (And.intro hsm hsk)
 obtain ⟨f, hf⟩ : ∃ f, pagesN m = f := ⟨_, rfl⟩
 obtain ⟨f2, hf2⟩ : ∃ f, pagesN k = f := ⟨_, rfl⟩
 have HFF := Lib.hid (And.intro hf hf2)
 rw [hf] at CPM0
 rw [hf2] at CPD
 rw [hf, hf2] at hP
 have hfp : 1 ≤ f := by have := pagesN_le1 h1.1; omega
 subst hP
 rw [suL_v]
 clear h hb0 hx0 hb1 hx1 hn hfit hgd hsm hsk hf hf2
 go_enter Tryz.func93, Tryz.ntmps93
 go_wp2_with fail
 (try rw [hw0])
 refine CPM0.mono ?_
 rintro e w2 ⟨rfl, rfl⟩
 clear CPM0
 go_wp2_with fail
 (try rw [hw1])
 (try rw [hq])
 clear hw0 hw1 hq
 refine CPD.mono ?_
 rintro e w2 ⟨rfl, rfl⟩
 clear CPD c1 c2
 go_wp2_with fail
 go_loopw [26] (fun v wr => v = .int .i64 0 ∧ w1 = wr) (fun _ _ => 0)
 case atStart => exact ⟨rfl, rfl⟩
 case round =>
  obtain ⟨rfl, rfl⟩ := hrel
  obtain ⟨wr, hwr⟩ : ∃ W, w1 = W := ⟨_, rfl⟩
  rw [hwr] at HX0 HB1 HQL ⊢
  clear hwr
  obtain ⟨i, hi⟩ : ∃ i : Nat, i = 0 := ⟨_, rfl⟩
  have HBW : Hid (Below w.heap.size w wr) := Lib.hid (bthn HB0.out HB1.out)
  have HPC : Hid (wr.cell? ⟨w.heap.size, 3 + 0, none⟩ = some (.int .u32 ((s.pages.getD 0 0 : Nat) : Int))) := Lib.hid (cellOf HX0.out (3 + 0) (by rw [List.getElem?_toArray]; exact suL_pg s (by omega)))
  have HPC1 : Hid (w.heap.size < wr.heap.size) := Lib.hid (Array.getElem?_eq_some_iff.1 HX0.out).1
  have HFI := HFT
  have HGD := HGA
  have hpl := HPG.out
  obtain ⟨bb, hb⟩ : ∃ b, zeros 256 = b := ⟨_, rfl⟩
  rw [hb] at HGD
  have HBL : Hid (bb.length = 256) := Lib.hid (by rw [← hb]; exact List.length_replicate)
  have CPZ : Hid (∀ X (no : Nat), no < 4294967296 → Calls Tryz.prog 137 #[.int .u32 (no : Int), .int .i64 0, bA bb] X fun e w' => e = .returned (.tuple #[.slice none 0 0, .int .i64 4]) ∧ Below X.heap.size X w') := Lib.hid (fun X no hno => by rw [← hb]; exact pof_zero X no hno)
  obtain ⟨LB, hL⟩ : ∃ L, bV bb = L := ⟨_, rfl⟩
  have HLB := Lib.hid hL
  have HLL : Hid (LB.length = 256) := Lib.hid (by rw [← hL, bV_len, HBL.out])
  have HL1 : Hid (∀ u ∈ LB, u.oneCell' = true) := Lib.hid (by rw [← hL]; exact bV_one bb)
  rw [show bA bb = .agg (bV bb).toArray from rfl, hL] at CPZ
  obtain ⟨pn, hpn⟩ : ∃ x, s.pages.getD 0 0 = x := ⟨_, rfl⟩
  rw [hpn] at HPC HFI hpl HGD
  have hwr1 : IntKind.i64.wrap (pn : Int) = (pn : Int) := IntWalk.i64_in _ ⟨by omega, by omega⟩
  have hwr2 : IntKind.i64.wrap (2 + (pn : Int)) = 2 + (pn : Int) := IntWalk.i64_in _ ⟨by omega, by omega⟩
  have CRD : Hid (∀ X, Below wr.heap.size wr X → Calls Tryz.prog 63 #[.pointer (some ⟨B, 0, none⟩), .int .i64 (2 + (pn : Int))] X fun e w' => e = .returned (.tuple #[.agg LB.toArray, .int .i64 0]) ∧ Below X.heap.size X w') := Lib.hid (fun X hX => by
   have h1 := sread_at n0 X B iv jv d (HDK.out.below (bthn HBW.out hX)) (2 + pn) HFI.out HNN.out
   rw [show ((2 + pn : Nat) : Int) = 2 + (pn : Int) by omega, HGD.out, show bA bb = .agg (bV bb).toArray from rfl, HLB.out] at h1
   exact h1)
  have CPO : Hid (∀ X, Calls Tryz.prog 137 #[.int .u32 (pn : Int), .int .i64 0, .agg LB.toArray] X fun e w' => e = .returned (.tuple #[.slice none 0 0, .int .i64 4]) ∧ Below X.heap.size X w') := Lib.hid (fun X => CPZ.out X pn hpl)
  have hfd : decide ((f : Int) ≤ 0) = false := decide_eq_false (by omega)
  have hfz : decide ((0 : Int) < (f : Int) + (f2 : Int)) = true := decide_eq_true (by omega)
  clear hb hL hpn hi
  go_upto_region 9 with fail
  have CR := CRD.out wr (Below.refl _ _)
  have hc3 := HPC.out
  go_wp2_with fail
  refine CR.mono ?_
  rintro e x1 ⟨rfl, hb1⟩
  dsimp only
  have hst := run_storeNew (P := Tryz.prog) x1 78 Tryz.zeroCells78 LB.toArray (by rw [show LB.toArray.size = 256 from by rw [List.size_toArray]; exact HLL.out]; kernel_rfl) (fun u hu => HL1.out u (by simpa using hu))
  obtain ⟨x2, hx2⟩ : ∃ W, x1.alloc (.cells LB.toArray 78) = W := ⟨_, rfl⟩
  have hb2 : Below x1.heap.size x1 x2 := by rw [← hx2]; exact balloc (Below.refl _ _) _
  have HR2 : Hid (x2.rangeAt x1.heap.size 0 LB) := Lib.hid (rangeOf (by rw [← hx2]; exact heap_alloc_new _ _))
  have HB2 := Lib.hid (bthn hb1 hb2)
  have HXL : Hid (x1.heap.size < x2.heap.size) := Lib.hid (by rw [← hx2]; exact (Array.getElem?_eq_some_iff.1 (heap_alloc_new _ _)).1)
  have HPC2 : Hid (x2.cell? ⟨w.heap.size, 3 + 0, none⟩ = some (.int .u32 (pn : Int))) := Lib.hid ((HB2.out.cell (p := ⟨w.heap.size, 3 + 0, none⟩) HPC1.out).trans HPC.out)
  have HPC3 : Hid (w.heap.size < x2.heap.size) := Lib.hid (Nat.lt_of_lt_of_le HPC1.out HB2.out.size)
  have HIB : Hid ((Tryz.prog.info? 78).map (·.size) = some LB.length) := Lib.hid (by rw [HLL.out]; exact infoBlk)
  rw [hx2] at hst
  clear CR hb1 hx2 hb2 hc3
  have hll := HLL.out
  go_wp2_with fail
  clear hst hll
  have HSS : Hid (∀ X, Below x2.heap.size x2 X → (X.cell? ⟨w.heap.size, 3 + 0, none⟩ = some (.int .u32 (pn : Int)) ∧ X.rangeAt x1.heap.size 0 LB) ∧ Below x2.heap.size x2 X) := Lib.hid (fun X hb => ⟨⟨(World.cell?_of_block (hb.block _ (HPC3.out))).trans (HPC2.out), (rangeSt HR2.out HXL.out hb)⟩, hb⟩)
  refine wp_region_held_drew (S := fun X => (X.cell? ⟨w.heap.size, 3 + 0, none⟩ = some (.int .u32 (pn : Int)) ∧ X.rangeAt x1.heap.size 0 LB) ∧ Below x2.heap.size x2 X) (by kernel_rfl) (HSS.out _ (Below.refl _ _).drew) (fun hHeld => ?_)
  have hbe : Below x2.heap.size x2 x2.drew := (Below.refl _ _).drew
  obtain ⟨wd, hwd⟩ : ∃ y, x2.drew = y := ⟨_, rfl⟩
  rw [hwd] at hHeld hbe ⊢
  have HBE := Lib.hid hbe
  have HS0 : Hid (x2.heap.size ≤ wd.heap.size) := Lib.hid HBE.out.size
  clear hwd hbe
  refine wpAnyH_take (i := 0) (v := ?_) rfl (by kernel_rfl) (by kernel_rfl) (by kernel_rfl) (fun _ _ _ h => h) (Or.inl ⟨by rfl, ?_⟩) (by assumption) ?_
  rotate_left
  ·(intro w hSw; (try dsimp only at hSw); simp only [List.getElem_toArray, List.getElem_cons_zero, List.getElem_cons_succ]; go_simp; first | done | with_reducible rfl)
  simp only [List.getElem_toArray, List.getElem_cons_zero, List.getElem_cons_succ, Act.put, List.setIfInBounds_toArray, List.set_cons_zero, List.set_cons_succ]
  refine wpAnyH_take (i := 1) (v := ?_) rfl (by kernel_rfl) (by kernel_rfl) (by kernel_rfl) (fun _ _ _ h => h) (Or.inl ⟨by rfl, ?_⟩) (by assumption) ?_
  rotate_left
  ·(intro w hSw; (try dsimp only at hSw); simp only [List.getElem_toArray, List.getElem_cons_zero, List.getElem_cons_succ]; go_simp; first | done | with_reducible rfl)
  simp only [List.getElem_toArray, List.getElem_cons_zero, List.getElem_cons_succ, Act.put, List.setIfInBounds_toArray, List.set_cons_zero, List.set_cons_succ]
  refine wpAnyH_take (i := 4) (v := ?_) rfl (by kernel_rfl) (by kernel_rfl) (by kernel_rfl) (fun _ _ _ h => h) (Or.inl ⟨by rfl, ?_⟩) (by assumption) ?_
  rotate_left
  ·(intro w hSw; (try dsimp only at hSw); simp only [List.getElem_toArray, List.getElem_cons_zero, List.getElem_cons_succ]; go_simp; first | done | with_reducible rfl)
  simp only [List.getElem_toArray, List.getElem_cons_zero, List.getElem_cons_succ, Act.put, List.setIfInBounds_toArray, List.set_cons_zero, List.set_cons_succ]
  refine wpAnyH_take (i := 5) (v := _) rfl (by kernel_rfl) (by kernel_rfl) (by kernel_rfl) (fun _ _ _ h => h) (yieldsIf_load_mid (by rfl) 78 _ rfl (x1.heap.size) (0) rfl (LB) _ (fun w hSw => hSw.1.2) (Tryz.underlying78) rfl (HIB.out)) (by assumption) ?_
  simp only [List.getElem_toArray, List.getElem_cons_zero, List.getElem_cons_succ, Act.put, List.setIfInBounds_toArray, List.set_cons_zero, List.set_cons_succ]
  refine wpAnyH_take (i := 2) (v := ?_) rfl (by kernel_rfl) (by kernel_rfl) (by kernel_rfl) (fun _ _ _ h => h) (Or.inl ⟨by rfl, ?_⟩) (by assumption) ?_
  rotate_left
  ·(intro w hSw; (try dsimp only at hSw); simp only [List.getElem_toArray, List.getElem_cons_zero, List.getElem_cons_succ]; go_simp; first | done | with_reducible rfl)
  simp only [List.getElem_toArray, List.getElem_cons_zero, List.getElem_cons_succ, Act.put, List.setIfInBounds_toArray, List.set_cons_zero, List.set_cons_succ]
  refine wpAnyH_take (i := 3) (v := ?_) rfl (by kernel_rfl) (by kernel_rfl) (by kernel_rfl) (fun _ _ _ h => h) (Or.inl ⟨by rfl, ?_⟩) (by assumption) ?_
  rotate_left
  ·(intro w hSw; (try dsimp only at hSw); simp only [List.getElem_toArray, List.getElem_cons_zero, List.getElem_cons_succ]; go_simp; first | done | with_reducible rfl)
  simp only [List.getElem_toArray, List.getElem_cons_zero, List.getElem_cons_succ, Act.put, List.setIfInBounds_toArray, List.set_cons_zero, List.set_cons_succ]
  refine wpAnyH_ready (rs := [6]) (by kernel_rfl) (by simp) ?_
  refine AllReadyH.cons rfl (fun K hK => ?_) (AllReadyH.nil)
  simp only [List.getElem_toArray, List.getElem_cons_zero, List.getElem_cons_succ]
  go_simp
  refine (CPO.out _).mono ?_
  rintro e w6 ⟨rfl, hb6⟩
  dsimp only
  have HBE := Lib.hid (bthen HBE.out hb6)
  have hSp := HSS.out _ HBE.out
  clear hHeld
  refine hK.out _ _ hSp (fun hHeld => ?_)
  clear hSp hK K
  try simp only [Act.put, List.setIfInBounds_toArray, List.set_cons_zero, List.set_cons_succ]
  have HC6 := Lib.hid hb6
  clear hb6
  refine wpAnyH_take (i := 7) (v := ?_) rfl (by kernel_rfl) (by kernel_rfl) (by kernel_rfl) (fun _ _ _ h => h) (Or.inl ⟨by rfl, ?_⟩) (by assumption) ?_
  rotate_left
  ·(intro w hSw; (try dsimp only at hSw); simp only [List.getElem_toArray, List.getElem_cons_zero, List.getElem_cons_succ]; go_simp; first | done | with_reducible rfl)
  simp only [List.getElem_toArray, List.getElem_cons_zero, List.getElem_cons_succ, Act.put, List.setIfInBounds_toArray, List.set_cons_zero, List.set_cons_succ]
  refine wpAnyH_take (i := 8) (v := ?_) rfl (by kernel_rfl) (by kernel_rfl) (by kernel_rfl) (fun _ _ _ h => h) (Or.inl ⟨by rfl, ?_⟩) (by assumption) ?_
  rotate_left
  ·(intro w hSw; (try dsimp only at hSw); simp only [List.getElem_toArray, List.getElem_cons_zero, List.getElem_cons_succ]; go_simp; first | done | with_reducible rfl)
  simp only [List.getElem_toArray, List.getElem_cons_zero, List.getElem_cons_succ, Act.put, List.setIfInBounds_toArray, List.set_cons_zero, List.set_cons_succ]
  refine wpAnyH_take (i := 9) (v := ?_) rfl (by kernel_rfl) (by kernel_rfl) (by kernel_rfl) (fun _ _ _ h => h) (Or.inl ⟨by rfl, ?_⟩) (by assumption) ?_
  rotate_left
  ·(intro w hSw; (try dsimp only at hSw); simp only [List.getElem_toArray, List.getElem_cons_zero, List.getElem_cons_succ]; go_simp; first | done | with_reducible rfl)
  simp only [List.getElem_toArray, List.getElem_cons_zero, List.getElem_cons_succ, Act.put, List.setIfInBounds_toArray, List.set_cons_zero, List.set_cons_succ]
  refine wpAnyH_take (i := 10) (v := ?_) rfl (by kernel_rfl) (by kernel_rfl) (by kernel_rfl) (fun _ _ _ h => h) (Or.inl ⟨by rfl, ?_⟩) (by assumption) ?_
  rotate_left
  ·(intro w hSw; (try dsimp only at hSw); simp only [List.getElem_toArray, List.getElem_cons_zero, List.getElem_cons_succ]; go_simp; first | done | with_reducible rfl)
  simp only [List.getElem_toArray, List.getElem_cons_zero, List.getElem_cons_succ, Act.put, List.setIfInBounds_toArray, List.set_cons_zero, List.set_cons_succ]
  refine wpAnyH_take (i := 11) (v := ?_) rfl (by kernel_rfl) (by kernel_rfl) (by kernel_rfl) (fun _ _ _ h => h) (Or.inl ⟨by rfl, ?_⟩) (by assumption) ?_
  rotate_left
  ·(intro w hSw; (try dsimp only at hSw); simp only [List.getElem_toArray, List.getElem_cons_zero, List.getElem_cons_succ]; go_simp; first | done | with_reducible rfl)
  simp only [List.getElem_toArray, List.getElem_cons_zero, List.getElem_cons_succ, Act.put, List.setIfInBounds_toArray, List.set_cons_zero, List.set_cons_succ]
  refine wpAnyH_done (by kernel_rfl) ?_ _
  have HEND := Lib.hid hHeld.2
  have HSE := Lib.hid hHeld.1
  clear hHeld
  clear HSS HSE HEND
  have HB6 : Hid (Below w.heap.size w w6) := Lib.hid (bthn (bthn HB0.out HB1.out) (bthn HB2.out HBE.out))
  go_wp2_with fail
  go_ret3
  exact ⟨rfl, HB6.out⟩
set_option maxRecDepth 100000 in
set_option maxHeartbeats 12800000 in
theorem sopen_bad (n0 : Nat) (w : World) (B : Nat) (iv jv : Value) (d : Dk) (h : DkAt n0 w B iv jv d) (s : Su) (m k : Nat) (hsm : s.mt = (m : Int)) (hsk : s.data = (k : Int)) (hm : 16 ≤ m ∧ m ≤ 240) (hk : 1 ≤ k ∧ k ≤ 480) (hp6 : pagesN m + pagesN k ≤ 6) (hsec : 4 * (2 + m + k) ≤ d.img.length) (hpg : s.pages.getD 0 0 < m) (hn : d.img.length ≤ 1000000) (hgd : rdB d.img (2 + s.pages.getD 0 0) = zeros 256) (Sf : Nat → Su) (ef : Nat → Int) (ho : ∀ i, i < 2 → OfR (rdB d.img i) (Sf i) (ef i)) (ht : ∀ i, i < 2 → (Sf i).tx < 18446744073709551616) (hb : bestS Sf ef 2 = s) (htx : s.tx ≠ 0) :
  Calls Tryz.prog 48 #[.pointer (some ⟨B, 0, none⟩)] w fun e w' => e = .returned (.tuple #[.pointer none, .int .i64 14]) ∧ Below w.heap.size w w' := by
 obtain ⟨m1, m2⟩ := hm
 obtain ⟨k1, k2⟩ := hk
 have HSM := Lib.hid (And.intro hsm hsk)
 have HDK := Lib.hid h
 have HNN := Lib.hid hn
 have CLD := sload_at n0 w B iv jv d h (by omega) hn Sf ef ho ht (by rw [hb]; exact htx)
 rw [hb, suL_v] at CLD
 obtain ⟨P, hP⟩ : ∃ P, pagesN m + pagesN k = P := ⟨_, rfl⟩
 have CPG : Hid (∀ X, Calls Tryz.prog 90 #[.int .i64 (m : Int), .int .i64 (k : Int)] X fun e w' => e = .returned (.int .i64 (P : Int)) ∧ Below X.heap.size X w') := Lib.hid (fun X => (stpages_any X m k (by omega) (by omega)).mono fun e w' hp => ⟨by rw [← hP]; exact hp.1, by rw [← hp.2]; exact Below.refl _ _⟩)
 have CPG0 : Hid (∀ X, Calls Tryz.prog 90 #[.int .i64 (m : Int), .int .i64 (k : Int)] X fun e w' => e = .returned (.int .i64 (P : Int)) ∧ X = w') := Lib.hid (fun X => (stpages_any X m k (by omega) (by omega)).mono fun e w' hp => ⟨by rw [← hP]; exact hp.1, hp.2⟩)
 have CBL : Hid (∀ X, Calls Tryz.prog 91 #[.int .i64 (m : Int), .int .i64 (k : Int)] X fun e w' => e = .returned (.int .i64 (2 + (m : Int) + (k : Int))) ∧ Below X.heap.size X w') := Lib.hid (fun X => (sblocks_any X m k (by omega) (by omega)).mono fun e w' hp => ⟨hp.1, by rw [← hp.2]; exact Below.refl _ _⟩)
 have CSC0 := dsec_at n0 w B iv jv d h
 have CSC : Hid (∀ X, DkAt n0 X B iv jv d → Calls Tryz.prog 66 #[.pointer (some ⟨B, 0, none⟩)] X fun e w' => e = .returned (.int .i64 (d.img.length : Int)) ∧ Below X.heap.size X w') := Lib.hid (fun X hX => (dsec_at n0 X B iv jv d hX).mono fun e w' hp => ⟨hp.1, by rw [← hp.2]; exact Below.refl _ _⟩)
 have CRP : Hid (∀ X, DkAt n0 X B iv jv d → Calls Tryz.prog 93 #[.pointer (some ⟨B, 0, none⟩), .agg (suL s).toArray] X fun e w' => e = .returned (.tuple #[.pointer none, .pointer none, .int .i64 14]) ∧ Below X.heap.size X w') := Lib.hid (fun X hX => srp_bad n0 X B iv jv d hX s m k hsm hsk (by omega) ⟨by omega, by omega⟩ ⟨by omega, by omega⟩ P hP (by omega) (by omega) hn hgd)
 obtain ⟨n, hnn⟩ : ∃ n, d.img.length = n := ⟨_, rfl⟩
 rw [hnn] at CSC CSC0 hsec hn
 rw [hP] at hp6
 have HPE := Lib.hid hP
 have hz : ((n : Int) == 0) = false := by simp; omega
 clear h ho ht hb hnn hP htx hsm hsk hgd hpg
 go_enter Tryz.func48, Tryz.ntmps48
 go_wp2_with fail
 refine CSC0.mono ?_
 rintro e w2 ⟨rfl, rfl⟩
 clear CSC0
 go_wp2_with fail
 refine CLD.mono ?_
 rintro e w2 ⟨rfl, hb2⟩
 dsimp only
 have HB2 := Lib.hid hb2
 obtain ⟨SL, hSL⟩ : ∃ L, suL s = L := ⟨_, rfl⟩
 have HSL := Lib.hid hSL
 have HS19 : Hid (SL.length = 19) := Lib.hid (by rw [← hSL]; rfl)
 have HS1 : Hid (∀ u ∈ SL, u.oneCell' = true) := Lib.hid (by rw [← hSL]; exact suL_one s)
 rw [hSL]
 rw [hSL] at CRP
 have hss : SL.toArray.size = 19 := by rw [List.size_toArray, HS19.out]
 clear CLD hb2 hSL
 repeat (first
  | (refine wpList_store_mid rfl 72 _ _ rfl w2.heap.size 0 SL.toArray rfl rfl (thereOf (heap_alloc_new w2 _) (by rw [hss]; simp)) (by rw [hss]; exact infoSup) (Array.all_eq_true_iff_forall_mem.2 (fun v hv => HS1.out v (by simpa using hv))) ?_; refine Hid.out ?_)
  | go_step)
 refine Lib.hid ?_
 simp only [List.toList_toArray]
 obtain ⟨w3, hw3⟩ : ∃ W, (w2.alloc (.cells #[.int .u64 0, .int .i64 0, .int .i64 0, .int .u32 0, .int .u32 0, .int .u32 0, .int .u32 0, .int .u32 0, .int .u32 0, .int .u32 0, .int .u32 0, .int .u32 0, .int .i64 0, .int .u64 0, .int .u64 0, .int .u64 0, .int .u64 0, .int .u64 0, .bool false] 72)).setCells w2.heap.size 0 SL = W := ⟨_, rfl⟩
 have HB3 : Hid (Below w.heap.size w w3) := Lib.hid (bthn HB2.out (by rw [← hw3]; exact belowSets (Nat.le_refl _) _ _ _ (balloc (Below.refl _ _) _)))
 obtain ⟨xb, hxb⟩ : ∃ x, w2.heap.size = x := ⟨_, rfl⟩
 have HX3 : Hid (w3.heap[xb]? = some (.cells (suL s).toArray 72 (0, 0))) := Lib.hid (by rw [HSL.out, ← hw3, ← hxb]; exact sets_all (heap_alloc_new _ _) (by rw [HS19.out]; rfl))
 rw [hw3, hxb]
 have HXB : Hid (w.heap.size ≤ xb) := Lib.hid (by rw [← hxb]; exact HB2.out.size)
 clear hw3 hxb hss hz
 have hc1 : Hid (w3.cell? ⟨xb, 1, none⟩ = some (.int .i64 (m : Int))) := Lib.hid (cellOf HX3.out 1 (by rw [← HSM.out.1]; rfl))
 have hc2 : Hid (w3.cell? ⟨xb, 2, none⟩ = some (.int .i64 (k : Int))) := Lib.hid (cellOf HX3.out 2 (by rw [← HSM.out.2]; rfl))
 have HXL : Hid (xb < w3.heap.size) := Lib.hid (Array.getElem?_eq_some_iff.1 HX3.out).1
 have q1 : decide ((6 : Int) < (P : Int)) = false := decide_eq_false (by omega)
 have q4 : decide ((n : Int) < 4 * (2 + (m : Int) + (k : Int))) = false := decide_eq_false (by omega)
 have hw1 : IntKind.i64.wrap (4 * (2 + (m : Int) + (k : Int))) = 4 * (2 + (m : Int) + (k : Int)) := IntWalk.i64_in _ ⟨by omega, by omega⟩
 go_wp2_with fail
 have HSS : Hid (∀ X, Below w3.heap.size w3 X → (X.cell? ⟨xb, 1, none⟩ = some (.int .i64 (m : Int)) ∧ X.cell? ⟨xb, 2, none⟩ = some (.int .i64 (k : Int))) ∧ Below w3.heap.size w3 X) := Lib.hid (fun X hb => ⟨⟨(World.cell?_of_block (hb.block _ (HXL.out))).trans (hc1.out), (World.cell?_of_block (hb.block _ (HXL.out))).trans (hc2.out)⟩, hb⟩)
 refine wp_region_held_drew (S := fun X => (X.cell? ⟨xb, 1, none⟩ = some (.int .i64 (m : Int)) ∧ X.cell? ⟨xb, 2, none⟩ = some (.int .i64 (k : Int))) ∧ Below w3.heap.size w3 X) (by kernel_rfl) (HSS.out _ (Below.refl _ _).drew) (fun hHeld => ?_)
 have hbe : Below w3.heap.size w3 w3.drew := (Below.refl _ _).drew
 obtain ⟨wd, hwd⟩ : ∃ y, w3.drew = y := ⟨_, rfl⟩
 rw [hwd] at hHeld hbe ⊢
 have HBE := Lib.hid hbe
 have HS0 : Hid (w3.heap.size ≤ wd.heap.size) := Lib.hid HBE.out.size
 clear hwd hbe
 refine wpAnyH_take (i := 0) (v := ?_) rfl (by kernel_rfl) (by kernel_rfl) (by kernel_rfl) (fun _ _ _ h => h) (Or.inl ⟨by rfl, ?_⟩) (by assumption) ?_
 rotate_left
 ·(intro w hSw; (try dsimp only at hSw); simp only [List.getElem_toArray, List.getElem_cons_zero, List.getElem_cons_succ]; go_simp; first | done | with_reducible rfl)
 simp only [List.getElem_toArray, List.getElem_cons_zero, List.getElem_cons_succ, Act.put, List.setIfInBounds_toArray, List.set_cons_zero, List.set_cons_succ]
 refine wpAnyH_take (i := 2) (v := ?_) rfl (by kernel_rfl) (by kernel_rfl) (by kernel_rfl) (fun _ _ _ h => h) (Or.inl ⟨by rfl, ?_⟩) (by assumption) ?_
 rotate_left
 ·(intro w hSw; (try dsimp only at hSw); simp only [List.getElem_toArray, List.getElem_cons_zero, List.getElem_cons_succ]; go_simp; first | done | with_reducible rfl)
 simp only [List.getElem_toArray, List.getElem_cons_zero, List.getElem_cons_succ, Act.put, List.setIfInBounds_toArray, List.set_cons_zero, List.set_cons_succ]
 refine wpAnyH_take (i := 1) (v := ?_) rfl (by kernel_rfl) (by kernel_rfl) (by kernel_rfl) (fun _ _ _ h => h) (Or.inl ⟨by rfl, ?_⟩) (by assumption) ?_
 rotate_left
 ·(intro w hSw; (try dsimp only at hSw); simp only [List.getElem_toArray, List.getElem_cons_zero, List.getElem_cons_succ]; go_simp; first | done | with_reducible rfl)
 simp only [List.getElem_toArray, List.getElem_cons_zero, List.getElem_cons_succ, Act.put, List.setIfInBounds_toArray, List.set_cons_zero, List.set_cons_succ]
 refine wpAnyH_take (i := 3) (v := ?_) rfl (by kernel_rfl) (by kernel_rfl) (by kernel_rfl) (fun _ _ _ h => h) (Or.inl ⟨by rfl, ?_⟩) (by assumption) ?_
 rotate_left
 ·(intro w hSw; (try dsimp only at hSw); simp only [List.getElem_toArray, List.getElem_cons_zero, List.getElem_cons_succ]; go_simp; first | done | with_reducible rfl)
 simp only [List.getElem_toArray, List.getElem_cons_zero, List.getElem_cons_succ, Act.put, List.setIfInBounds_toArray, List.set_cons_zero, List.set_cons_succ]
 refine wpAnyH_ready (rs := [4]) (by kernel_rfl) (by simp) ?_
 refine AllReadyH.cons rfl (fun K hK => ?_) (AllReadyH.nil)
 simp only [List.getElem_toArray, List.getElem_cons_zero, List.getElem_cons_succ]
 go_simp
 refine (CPG.out _).mono ?_
 rintro e y4 ⟨rfl, hb4⟩
 dsimp only
 have HBE := Lib.hid (bthen HBE.out hb4)
 have hSp := HSS.out _ HBE.out
 clear hHeld
 refine hK.out _ _ hSp (fun hHeld => ?_)
 clear hSp hK K
 try simp only [Act.put, List.setIfInBounds_toArray, List.set_cons_zero, List.set_cons_succ]
 have HC4 := Lib.hid hb4
 clear hb4
 refine wpAnyH_take (i := 5) (v := ?_) rfl (by kernel_rfl) (by kernel_rfl) (by kernel_rfl) (fun _ _ _ h => h) (Or.inl ⟨by rfl, ?_⟩) (by assumption) ?_
 rotate_left
 ·(intro w hSw; (try dsimp only at hSw); simp only [List.getElem_toArray, List.getElem_cons_zero, List.getElem_cons_succ]; go_simp; first | done | with_reducible rfl)
 simp only [List.getElem_toArray, List.getElem_cons_zero, List.getElem_cons_succ, Act.put, List.setIfInBounds_toArray, List.set_cons_zero, List.set_cons_succ]
 refine wpAnyH_take (i := 6) (v := ?_) rfl (by kernel_rfl) (by kernel_rfl) (by kernel_rfl) (fun _ _ _ h => h) (Or.inl ⟨by rfl, ?_⟩) (by assumption) ?_
 rotate_left
 ·(intro w hSw; (try dsimp only at hSw); simp only [List.getElem_toArray, List.getElem_cons_zero, List.getElem_cons_succ]; go_simp; first | done | with_reducible rfl)
 simp only [List.getElem_toArray, List.getElem_cons_zero, List.getElem_cons_succ, Act.put, List.setIfInBounds_toArray, List.set_cons_zero, List.set_cons_succ]
 refine wpAnyH_take (i := 7) (v := ?_) rfl (by kernel_rfl) (by kernel_rfl) (by kernel_rfl) (fun _ _ _ h => h) (Or.inl ⟨by rfl, ?_⟩) (by assumption) ?_
 rotate_left
 ·(intro w hSw; (try dsimp only at hSw); simp only [List.getElem_toArray, List.getElem_cons_zero, List.getElem_cons_succ]; go_simp; first | done | with_reducible rfl)
 simp only [List.getElem_toArray, List.getElem_cons_zero, List.getElem_cons_succ, Act.put, List.setIfInBounds_toArray, List.set_cons_zero, List.set_cons_succ]
 refine wpAnyH_take (i := 9) (v := ?_) rfl (by kernel_rfl) (by kernel_rfl) (by kernel_rfl) (fun _ _ _ h => h) (Or.inl ⟨by rfl, ?_⟩) (by assumption) ?_
 rotate_left
 ·(intro w hSw; (try dsimp only at hSw); simp only [List.getElem_toArray, List.getElem_cons_zero, List.getElem_cons_succ]; go_simp; first | done | with_reducible rfl)
 simp only [List.getElem_toArray, List.getElem_cons_zero, List.getElem_cons_succ, Act.put, List.setIfInBounds_toArray, List.set_cons_zero, List.set_cons_succ]
 refine wpAnyH_take (i := 11) (v := ?_) rfl (by kernel_rfl) (by kernel_rfl) (by kernel_rfl) (fun _ _ _ h => h) (Or.inl ⟨by rfl, ?_⟩) (by assumption) ?_
 rotate_left
 ·(intro w hSw; (try dsimp only at hSw); simp only [List.getElem_toArray, List.getElem_cons_zero, List.getElem_cons_succ]; go_simp; first | done | with_reducible rfl)
 simp only [List.getElem_toArray, List.getElem_cons_zero, List.getElem_cons_succ, Act.put, List.setIfInBounds_toArray, List.set_cons_zero, List.set_cons_succ]
 refine wpAnyH_take (i := 10) (v := ?_) rfl (by kernel_rfl) (by kernel_rfl) (by kernel_rfl) (fun _ _ _ h => h) (Or.inl ⟨by rfl, ?_⟩) (by assumption) ?_
 rotate_left
 ·(intro w hSw; (try dsimp only at hSw); simp only [List.getElem_toArray, List.getElem_cons_zero, List.getElem_cons_succ]; go_simp; first | done | with_reducible rfl)
 simp only [List.getElem_toArray, List.getElem_cons_zero, List.getElem_cons_succ, Act.put, List.setIfInBounds_toArray, List.set_cons_zero, List.set_cons_succ]
 refine wpAnyH_take (i := 12) (v := ?_) rfl (by kernel_rfl) (by kernel_rfl) (by kernel_rfl) (fun _ _ _ h => h) (Or.inl ⟨by rfl, ?_⟩) (by assumption) ?_
 rotate_left
 ·(intro w hSw; (try dsimp only at hSw); simp only [List.getElem_toArray, List.getElem_cons_zero, List.getElem_cons_succ]; go_simp; first | done | with_reducible rfl)
 simp only [List.getElem_toArray, List.getElem_cons_zero, List.getElem_cons_succ, Act.put, List.setIfInBounds_toArray, List.set_cons_zero, List.set_cons_succ]
 refine wpAnyH_ready (rs := [8]) (by kernel_rfl) (by simp) ?_
 refine AllReadyH.cons rfl (fun K hK => ?_) (AllReadyH.nil)
 simp only [List.getElem_toArray, List.getElem_cons_zero, List.getElem_cons_succ]
 go_simp
 refine (CSC.out _ (HDK.out.below (bthn HB3.out HBE.out))).mono ?_
 rintro e y8 ⟨rfl, hb8⟩
 dsimp only
 have HBE := Lib.hid (bthen HBE.out hb8)
 have hSp := HSS.out _ HBE.out
 clear hHeld
 refine hK.out _ _ hSp (fun hHeld => ?_)
 clear hSp hK K
 try simp only [Act.put, List.setIfInBounds_toArray, List.set_cons_zero, List.set_cons_succ]
 have HC8 := Lib.hid hb8
 clear hb8
 refine wpAnyH_ready (rs := [13]) (by kernel_rfl) (by simp) ?_
 refine AllReadyH.cons rfl (fun K hK => ?_) (AllReadyH.nil)
 simp only [List.getElem_toArray, List.getElem_cons_zero, List.getElem_cons_succ]
 go_simp
 refine (CBL.out _).mono ?_
 rintro e y13 ⟨rfl, hb13⟩
 dsimp only
 have HBE := Lib.hid (bthen HBE.out hb13)
 have hSp := HSS.out _ HBE.out
 clear hHeld
 refine hK.out _ _ hSp (fun hHeld => ?_)
 clear hSp hK K
 try simp only [Act.put, List.setIfInBounds_toArray, List.set_cons_zero, List.set_cons_succ]
 have HC13 := Lib.hid hb13
 clear hb13
 refine wpAnyH_take (i := 14) (v := ?_) rfl (by kernel_rfl) (by kernel_rfl) (by kernel_rfl) (fun _ _ _ h => h) (Or.inl ⟨by rfl, ?_⟩) (by assumption) ?_
 rotate_left
 ·(intro w hSw; (try dsimp only at hSw); simp only [List.getElem_toArray, List.getElem_cons_zero, List.getElem_cons_succ]; go_simp; first | done | with_reducible rfl)
 simp only [List.getElem_toArray, List.getElem_cons_zero, List.getElem_cons_succ, Act.put, List.setIfInBounds_toArray, List.set_cons_zero, List.set_cons_succ]
 refine wpAnyH_take (i := 15) (v := ?_) rfl (by kernel_rfl) (by kernel_rfl) (by kernel_rfl) (fun _ _ _ h => h) (Or.inl ⟨by rfl, ?_⟩) (by assumption) ?_
 rotate_left
 ·(intro w hSw; (try dsimp only at hSw); simp only [List.getElem_toArray, List.getElem_cons_zero, List.getElem_cons_succ]; go_simp; first | done | with_reducible rfl)
 simp only [List.getElem_toArray, List.getElem_cons_zero, List.getElem_cons_succ, Act.put, List.setIfInBounds_toArray, List.set_cons_zero, List.set_cons_succ]
 refine wpAnyH_take (i := 16) (v := ?_) rfl (by kernel_rfl) (by kernel_rfl) (by kernel_rfl) (fun _ _ _ h => h) (Or.inl ⟨by rfl, ?_⟩) (by assumption) ?_
 rotate_left
 ·(intro w hSw; (try dsimp only at hSw); simp only [List.getElem_toArray, List.getElem_cons_zero, List.getElem_cons_succ]; go_simp; first | done | with_reducible rfl)
 simp only [List.getElem_toArray, List.getElem_cons_zero, List.getElem_cons_succ, Act.put, List.setIfInBounds_toArray, List.set_cons_zero, List.set_cons_succ]
 refine wpAnyH_done (by kernel_rfl) ?_ _
 have HEND := Lib.hid hHeld.2
 have HSE := Lib.hid hHeld.1
 clear hHeld
 clear HSS HEND HSE
 have HBW := Lib.hid (bthn HB3.out HBE.out)
 have HXW : Hid (y13.heap[xb]? = some (.cells (suL s).toArray 72 (0, 0))) := Lib.hid ((HBE.out.block _ HXL.out).trans HX3.out)
 have HRX : Hid (y13.rangeAt xb 0 SL) := Lib.hid (by rw [← HSL.out]; exact rangeOf HXW.out)
 have HIS : Hid ((Tryz.prog.info? 72).map (·.size) = some SL.length) := Lib.hid (by rw [HS19.out]; exact infoSup)
 have CR := CRP.out _ (HDK.out.below HBW.out)
 clear q1 q4 hw1
 go_upto_region 8 with fail
 apply wp_region_lit
 repeat (first
  | (refine wpList_load_mid rfl 72 _ rfl xb 0 rfl SL _ HRX.out Tryz.underlying72 rfl HIS.out ?_)
  | go_step)
 refine CR.mono ?_
 rintro e x1 ⟨rfl, hb1⟩
 dsimp only
 have HB1 := Lib.hid (bthn HBW.out hb1)
 clear CR hb1
 go_wp2_with fail
 go_ret2
 exact ⟨rfl, HB1.out⟩
end Go.Proofs.YtgmahhdnjikdjaaGreat
