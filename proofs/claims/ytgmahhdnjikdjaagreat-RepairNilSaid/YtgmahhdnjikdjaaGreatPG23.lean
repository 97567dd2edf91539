import Derived.Test.YtgmahhdnjikdjaaGreatPG22
set_option linter.unusedVariables false
set_option linter.unusedSimpArgs false
/- A disk's copy; Load and Open where there is no superblock; what check answers of what is not there; CheckNil, walked. (Printed by mkck6.py.) -/
namespace Go.Proofs.YtgmahhdnjikdjaaGreat
open Go.RowKit Wire
set_option linter.unusedVariables false
set_option linter.unusedSimpArgs false
theorem secsC_one (img : List (List UInt8)) : ∀ u ∈ secsC img, u.oneCell' = true := fun u hu => by
 obtain ⟨s, _, hs⟩ := List.mem_flatMap.1 hu
 exact bV_one s u hs
set_option maxRecDepth 100000 in
set_option maxHeartbeats 3200000 in
theorem cloneSec (v : Value) (n b : Nat) (img : List (List UInt8)) (w : World) (h : w.ownsRow b 152 64 v n (secsC img)) (h0 : 0 < n) (hn : n ≤ 1000000) :
  Calls Tryz.prog 201 #[v] w fun e w' => ∃ v', e = .returned v' ∧ w'.ownsRow w.heap.size 152 64 v' n (secsC img) ∧ Below w.heap.size w w' := by
 have hrd := Rd.of_own h
 obtain ⟨g, c, cur, rfl, _⟩ := rowSome h h0
 have HO0 : Hid ((w.alloc (.cells #[] 152)).ownsRow w.heap.size 152 64 (.slice (some ⟨w.heap.size, 0, none⟩) 0 0) 0 []) := Lib.hid (World.ownsRow_made w #[] 0 (Nat.le_refl _) (by decide) rfl)
 have HRD := Lib.hid (hrd.below (balloc (Below.refl _ w) (.cells #[] 152)))
 have HL := Lib.hid hn
 obtain ⟨cs, hcs⟩ : ∃ x, secsC img = x := ⟨_, rfl⟩
 have HC1 : Hid (∀ u ∈ cs, u.oneCell' = true) := Lib.hid (by rw [← hcs]; exact secsC_one img)
 rw [hcs] at HRD ⊢
 have he := fun w a n c => Lib.run_eql_slice_nil (P := Tryz.prog) w 64 152 a n c 0 0 Tryz.underlying64
 clear h hrd hcs
 go_enter Tryz.func201, Tryz.ntmps201
 go_wp2_with (at_builtin; go_must (refine wpList_apps rfl _ _ 64 rfl w.heap.size 152 _ 64 64 Tryz.underlying64 infoSec4 (by simp [Value.cells]) (by decide) (by decide) (.slice (some ⟨w.heap.size, 0, none⟩) 0 0) 0 [] (by rfl) HO0.out (.slice (some ⟨g, 0, none⟩) n c) n cs (by rfl) HRD.out HC1.out (by have := HL.out; omega) (by simp) ?_); intro v' w1 ho1 hb1 _ _ _)
 go_ret
 exact ⟨_, rfl, by simpa using ho1, (balloc (Below.refl _ w) _).trans hb1⟩
set_option maxRecDepth 100000 in
set_option maxHeartbeats 3200000 in
theorem cloneEnt_nil (w : World) : Calls Tryz.prog 202 #[.slice none 0 0] w fun e w' => e = .returned (.slice none 0 0) ∧ Below w.heap.size w w' := by
 have he := fun w a n c => Lib.run_eql_slice_nil (P := Tryz.prog) w 65 229 a n c 0 0 Tryz.underlying65
 go_enter Tryz.func202, Tryz.ntmps202
 go_wp2_with fail
 go_ret
 exact ⟨rfl, Below.refl _ _⟩
set_option maxRecDepth 100000 in
set_option maxHeartbeats 6400000 in
theorem dcopy_at (n0 : Nat) (w : World) (B : Nat) (iv : Value) (d : Dk) (h : DkAt n0 w B iv (.slice none 0 0) d) (hj : d.jr = []) (h0 : 0 < d.img.length) (hn : d.img.length ≤ 1000000) :
  Calls Tryz.prog 184 #[.pointer (some ⟨B, 0, none⟩)] w fun e w' => ∃ B' iv', e = .returned (.pointer (some ⟨B', 0, none⟩)) ∧ DkAt w.heap.size w' B' iv' (.slice none 0 0) d ∧ Below w.heap.size w w' := by
 have CS := dsec_at n0 w B iv _ d h
 have HH := Lib.hid h
 have HJR := Lib.hid hj
 have HSE2 := Lib.hid h.secs
 obtain ⟨a, c, rfl⟩ := rowSl h.img
 obtain ⟨n, hnn⟩ : ∃ n, d.img.length = n := ⟨_, rfl⟩
 have HNN := Lib.hid hnn
 rw [hnn] at CS h0 hn
 have hz : ((n : Int) == 0) = false := by simp; omega
 obtain ⟨lf, hlf⟩ : ∃ x, d.left = x := ⟨_, rfl⟩
 obtain ⟨dd, hdd⟩ : ∃ x, d.dead = x := ⟨_, rfl⟩
 have hbx := h.box
 rw [hlf, hdd, hnn] at hbx
 have HBX := Lib.hid hbx
 have HLF := Lib.hid (And.intro hlf hdd)
 have b0 := cellOf hbx 0 (v := .slice a n c) rfl
 have b1 := cellOf hbx 1 (v := .slice none 0 0) rfl
 have b2 := cellOf hbx 2 (v := .int .i64 lf) rfl
 have b3 := cellOf hbx 3 (v := .bool dd) rfl
 clear h hj hnn hlf hdd hbx
 obtain ⟨w1, hw1⟩ : ∃ W, w.alloc (.cells #[.slice a n c, .slice none 0 0, .int .i64 lf, .bool dd] 67) = W := ⟨_, rfl⟩
 have hb1 : Below w.heap.size w w1 := by rw [← hw1]; exact balloc (Below.refl _ _) _
 have HX1 : Hid (w1.heap[w.heap.size]? = some (.cells #[.slice a n c, .slice none 0 0, .int .i64 lf, .bool dd] 67 (0, 0))) := Lib.hid (by rw [← hw1]; exact heap_alloc_new _ _)
 have HB1 := Lib.hid hb1
 have HXB : Hid (w1.heap[B]? = some (.cells #[.slice a n c, .slice none 0 0, .int .i64 lf, .bool dd] 67 (0, 0))) := Lib.hid ((hb1.block _ (Array.getElem?_eq_some_iff.1 HBX.out).1).trans HBX.out)
 have HIM : Hid (w1.ownsRow n0 152 64 (.slice a n c) n (secsC d.img)) := Lib.hid (by have h1 := (HH.out.below hb1).img; rw [HNN.out] at h1; exact h1)
 have HBN : Hid (B ∉ [w.heap.size]) := Lib.hid (by have := (Array.getElem?_eq_some_iff.1 HBX.out).1; simp; omega)
 have HBL : Hid (B < w1.heap.size ∧ w.heap.size < w1.heap.size) := Lib.hid ⟨(Array.getElem?_eq_some_iff.1 HXB.out).1, (Array.getElem?_eq_some_iff.1 HX1.out).1⟩
 have CL : Hid (∀ X, Below w1.heap.size w1 X → Calls Tryz.prog 201 #[.slice a n c] X fun e w' => ∃ v', e = .returned v' ∧ w'.ownsRow X.heap.size 152 64 v' n (secsC d.img) ∧ Below X.heap.size X w') := Lib.hid (fun X hX => cloneSec _ n n0 _ X (ownsRow_below HIM.out hX) h0 hn)
 have CE : Hid (∀ X, Calls Tryz.prog 202 #[.slice none 0 0] X fun e w' => e = .returned (.slice none 0 0) ∧ Below X.heap.size X w') := Lib.hid (fun X => cloneEnt_nil X)
 have hst := run_storeNew (P := Tryz.prog) w 67 #[.slice none 0 0, .slice none 0 0, .int .i64 0, .bool false] #[.slice a n c, .slice none 0 0, .int .i64 lf, .bool dd] rfl (fun u hu => by simp at hu; rcases hu with rfl | rfl | rfl | rfl <;> rfl)
 clear hb1
 go_enter Tryz.func184, Tryz.ntmps184
 go_wp2_with fail
 refine CS.mono ?_
 rintro e w2 ⟨rfl, rfl⟩
 clear CS
 go_upto_region 4 with fail
 clear hst b0 b1 b2 b3 hw1
 have HSS : Hid (∀ X, Mods [w.heap.size] w1 X → (X.cell? ⟨B, 0, none⟩ = some (.slice a n c) ∧ X.cell? ⟨B, 1, none⟩ = some (.slice none 0 0)) ∧ Mods [w.heap.size] w1 X) := Lib.hid (fun X hb => ⟨⟨(World.cell?_of_block (hb.block _ (HBL.out.1) (HBN.out))).trans (cellOf HXB.out 0 rfl), (World.cell?_of_block (hb.block _ (HBL.out.1) (HBN.out))).trans (cellOf HXB.out 1 rfl)⟩, hb⟩)
 refine wp_region_held_drew (S := fun X => (X.cell? ⟨B, 0, none⟩ = some (.slice a n c) ∧ X.cell? ⟨B, 1, none⟩ = some (.slice none 0 0)) ∧ Mods [w.heap.size] w1 X) (by kernel_rfl) (HSS.out _ (Mods.of_below (Below.refl _ _).drew)) (fun hHeld => ?_)
 have hbe : Below w1.heap.size w1 w1.drew := (Below.refl _ _).drew
 obtain ⟨wd, hwd⟩ : ∃ y, w1.drew = y := ⟨_, rfl⟩
 rw [hwd] at hHeld hbe ⊢
 have HBE := Lib.hid hbe
 have HS0 : Hid (w1.heap.size ≤ wd.heap.size) := Lib.hid HBE.out.size
 clear hwd hbe
 refine wpAnyH_take (i := 0) (v := ?_) rfl (by kernel_rfl) (by kernel_rfl) (by kernel_rfl) (fun _ _ _ h => h) (Or.inl ⟨by rfl, ?_⟩) (by assumption) ?_
 rotate_left
 ·(intro w hSw; (try dsimp only at hSw); simp only [List.getElem_toArray, List.getElem_cons_zero, List.getElem_cons_succ]; go_simp; first | done | with_reducible rfl)
 simp only [List.getElem_toArray, List.getElem_cons_zero, List.getElem_cons_succ, Act.put, List.setIfInBounds_toArray, List.set_cons_zero, List.set_cons_succ]
 refine wpAnyH_take (i := 5) (v := ?_) rfl (by kernel_rfl) (by kernel_rfl) (by kernel_rfl) (fun _ _ _ h => h) (Or.inl ⟨by rfl, ?_⟩) (by assumption) ?_
 rotate_left
 ·(intro w hSw; (try dsimp only at hSw); simp only [List.getElem_toArray, List.getElem_cons_zero, List.getElem_cons_succ]; go_simp; first | done | with_reducible rfl)
 simp only [List.getElem_toArray, List.getElem_cons_zero, List.getElem_cons_succ, Act.put, List.setIfInBounds_toArray, List.set_cons_zero, List.set_cons_succ]
 refine wpAnyH_take (i := 1) (v := ?_) rfl (by kernel_rfl) (by kernel_rfl) (by kernel_rfl) (fun _ _ _ h => h) (Or.inl ⟨by rfl, ?_⟩) (by assumption) ?_
 rotate_left
 ·(intro w hSw; (try dsimp only at hSw); simp only [List.getElem_toArray, List.getElem_cons_zero, List.getElem_cons_succ]; go_simp; first | done | with_reducible rfl)
 simp only [List.getElem_toArray, List.getElem_cons_zero, List.getElem_cons_succ, Act.put, List.setIfInBounds_toArray, List.set_cons_zero, List.set_cons_succ]
 refine wpAnyH_take (i := 6) (v := ?_) rfl (by kernel_rfl) (by kernel_rfl) (by kernel_rfl) (fun _ _ _ h => h) (Or.inl ⟨by rfl, ?_⟩) (by assumption) ?_
 rotate_left
 ·(intro w hSw; (try dsimp only at hSw); simp only [List.getElem_toArray, List.getElem_cons_zero, List.getElem_cons_succ]; go_simp; first | done | with_reducible rfl)
 simp only [List.getElem_toArray, List.getElem_cons_zero, List.getElem_cons_succ, Act.put, List.setIfInBounds_toArray, List.set_cons_zero, List.set_cons_succ]
 refine wpAnyH_take (i := 2) (v := ?_) rfl (by kernel_rfl) (by kernel_rfl) (by kernel_rfl) (fun _ _ _ h => h) (Or.inl ⟨by rfl, ?_⟩) (by assumption) ?_
 rotate_left
 ·(intro w hSw; (try dsimp only at hSw); simp only [List.getElem_toArray, List.getElem_cons_zero, List.getElem_cons_succ]; go_simp; first | done | with_reducible rfl)
 simp only [List.getElem_toArray, List.getElem_cons_zero, List.getElem_cons_succ, Act.put, List.setIfInBounds_toArray, List.set_cons_zero, List.set_cons_succ]
 refine wpAnyH_take (i := 7) (v := ?_) rfl (by kernel_rfl) (by kernel_rfl) (by kernel_rfl) (fun _ _ _ h => h) (Or.inl ⟨by rfl, ?_⟩) (by assumption) ?_
 rotate_left
 ·(intro w hSw; (try dsimp only at hSw); simp only [List.getElem_toArray, List.getElem_cons_zero, List.getElem_cons_succ]; go_simp; first | done | with_reducible rfl)
 simp only [List.getElem_toArray, List.getElem_cons_zero, List.getElem_cons_succ, Act.put, List.setIfInBounds_toArray, List.set_cons_zero, List.set_cons_succ]
 refine wpAnyH_take (i := 3) (v := ?_) rfl (by kernel_rfl) (by kernel_rfl) (by kernel_rfl) (fun _ _ _ h => h) (Or.inl ⟨by rfl, ?_⟩) (by assumption) ?_
 rotate_left
 ·(intro w hSw; (try dsimp only at hSw); simp only [List.getElem_toArray, List.getElem_cons_zero, List.getElem_cons_succ]; go_simp; first | done | with_reducible rfl)
 simp only [List.getElem_toArray, List.getElem_cons_zero, List.getElem_cons_succ, Act.put, List.setIfInBounds_toArray, List.set_cons_zero, List.set_cons_succ]
 refine wpAnyH_take (i := 8) (v := ?_) rfl (by kernel_rfl) (by kernel_rfl) (by kernel_rfl) (fun _ _ _ h => h) (Or.inl ⟨by rfl, ?_⟩) (by assumption) ?_
 rotate_left
 ·(intro w hSw; (try dsimp only at hSw); simp only [List.getElem_toArray, List.getElem_cons_zero, List.getElem_cons_succ]; go_simp; first | done | with_reducible rfl)
 simp only [List.getElem_toArray, List.getElem_cons_zero, List.getElem_cons_succ, Act.put, List.setIfInBounds_toArray, List.set_cons_zero, List.set_cons_succ]
 refine wpAnyH_ready (rs := [4]) (by kernel_rfl) (by simp) ?_
 refine AllReadyH.cons rfl (fun K hK => ?_) (AllReadyH.nil)
 simp only [List.getElem_toArray, List.getElem_cons_zero, List.getElem_cons_succ]
 go_simp
 refine (CL.out _ HBE.out).mono ?_
 rintro e w4 ⟨v4, rfl, ho4, hb4⟩
 dsimp only
 have HBE := Lib.hid (bthen HBE.out hb4)
 have hSp := HSS.out _ (Mods.of_below HBE.out)
 clear hHeld
 refine hK.out _ _ hSp (fun hHeld => ?_)
 clear hSp hK K
 try simp only [Act.put, List.setIfInBounds_toArray, List.set_cons_zero, List.set_cons_succ]
 obtain ⟨a4, c4, rfl⟩ := rowSl ho4
 have HO4 := Lib.hid ho4
 have HLO : Hid (w.heap.size ≤ wd.heap.size) := Lib.hid (Nat.le_trans HB1.out.size HS0.out)
 clear ho4
 have HC4 := Lib.hid hb4
 clear hb4
 refine wpAnyH_ready (rs := [9]) (by kernel_rfl) (by simp) ?_
 refine AllReadyH.cons rfl (fun K hK => ?_) (AllReadyH.nil)
 simp only [List.getElem_toArray, List.getElem_cons_zero, List.getElem_cons_succ]
 go_simp
 refine (CE.out _).mono ?_
 rintro e w9 ⟨rfl, hb9⟩
 dsimp only
 have HBE := Lib.hid (bthen HBE.out hb9)
 have hSp := HSS.out _ (Mods.of_below HBE.out)
 clear hHeld
 refine hK.out _ _ hSp (fun hHeld => ?_)
 clear hSp hK K
 try simp only [Act.put, List.setIfInBounds_toArray, List.set_cons_zero, List.set_cons_succ]
 have HC9 := Lib.hid hb9
 clear hb9
 refine wpAnyH_take (i := 10) (v := ?_) rfl (by kernel_rfl) (by kernel_rfl) (by kernel_rfl) (fun _ _ _ h => h) (Or.inl ⟨by rfl, ?_⟩) (by assumption) ?_
 rotate_left
 ·(intro w hSw; (try dsimp only at hSw); simp only [List.getElem_toArray, List.getElem_cons_zero, List.getElem_cons_succ]; go_simp; first | done | with_reducible rfl)
 simp only [List.getElem_toArray, List.getElem_cons_zero, List.getElem_cons_succ, Act.put, List.setIfInBounds_toArray, List.set_cons_zero, List.set_cons_succ]
 refine wpAnyH_ready (rs := [11]) (by kernel_rfl) (by simp) ?_
 refine AllReadyH.cons rfl (fun K hK => ?_) (AllReadyH.nil)
 have hox := (HBE.out.block _ HBL.out.2).trans HX1.out
 have hc11 := cellOf hox 0 (v := .slice a n c) rfl
 have hf11 := frozenOf hox 0
 simp only [List.getElem_toArray, List.getElem_cons_zero, List.getElem_cons_succ]
 go_simp
 refine hK.out _ _ ?_ (fun hHeld => ?_)
 ·exact HSS.out _ ((Mods.of_below HBE.out).setCell (p := ⟨w.heap.size, 0, none⟩) (List.mem_singleton.2 rfl) _)
 clear hK K
 try simp only [Act.put, List.setIfInBounds_toArray, List.set_cons_zero, List.set_cons_succ]
 clear hc11 hf11 hox
 refine wpAnyH_take (i := 12) (v := ?_) rfl (by kernel_rfl) (by kernel_rfl) (by kernel_rfl) (fun _ _ _ h => h) (Or.inl ⟨by rfl, ?_⟩) (by assumption) ?_
 rotate_left
 ·(intro w hSw; (try dsimp only at hSw); simp only [List.getElem_toArray, List.getElem_cons_zero, List.getElem_cons_succ]; go_simp; first | done | with_reducible rfl)
 simp only [List.getElem_toArray, List.getElem_cons_zero, List.getElem_cons_succ, Act.put, List.setIfInBounds_toArray, List.set_cons_zero, List.set_cons_succ]
 refine wpAnyH_ready (rs := [13]) (by kernel_rfl) (by simp) ?_
 refine AllReadyH.cons rfl (fun K hK => ?_) (AllReadyH.nil)
 have hox := setOf ((HBE.out.block _ HBL.out.2).trans HX1.out) 0 (.slice a4 n c4)
 have hc13 := cellOf hox 1 (v := .slice none 0 0) rfl
 have hf13 := frozenOf hox 1
 simp only [List.getElem_toArray, List.getElem_cons_zero, List.getElem_cons_succ]
 go_simp
 refine hK.out _ _ ?_ (fun hHeld => ?_)
 ·exact HSS.out _ (((Mods.of_below HBE.out).setCell (p := ⟨w.heap.size, 0, none⟩) (List.mem_singleton.2 rfl) _).setCell (p := ⟨w.heap.size, 1, none⟩) (List.mem_singleton.2 rfl) _)
 clear hK K
 try simp only [Act.put, List.setIfInBounds_toArray, List.set_cons_zero, List.set_cons_succ]
 clear hc13 hf13 hox
 refine wpAnyH_done (by kernel_rfl) ?_ _
 have HEND := Lib.hid hHeld.2
 have HSE := Lib.hid hHeld.1
 clear hHeld
 clear HSS HSE HEND
 have HO9 : Hid (w9.ownsRow w.heap.size 152 64 (.slice a4 n c4) n (secsC d.img)) := Lib.hid (ownsRow_below (ownsRow_base HO4.out HLO.out) HC9.out)
 have HOX : Hid (w9.heap[w.heap.size]? = some (.cells #[.slice a n c, .slice none 0 0, .int .i64 lf, .bool dd] 67 (0, 0))) := Lib.hid ((HBE.out.block _ HBL.out.2).trans HX1.out)
 have HFN : Hid (DkAt w.heap.size ((w9.setCell ⟨w.heap.size, 0, none⟩ (.slice a4 n c4)).setCell ⟨w.heap.size, 1, none⟩ (.slice none 0 0)) w.heap.size (.slice a4 n c4) (.slice none 0 0) d) := Lib.hid (by
  have q1 := setOf HOX.out 0 (.slice a4 n c4)
  have q2 := setOf q1 1 (.slice none 0 0)
  refine ⟨?_, ?_, by rw [HJR.out]; exact World.ownsRow_nil _ _ _ _, HSE2.out, fun p hp => (by rw [HJR.out] at hp; cases hp), Nat.le_refl _⟩
  ·rw [HLF.out.1, HLF.out.2]
   exact q2
  ·rw [HNN.out]
   have t1 : w.heap.size ∉ ob (.slice a4 n c4) := ob_tag HO9.out HOX.out (by decide)
   refine ownsRow_at HO9.out (fun k hk => ?_)
   have hne : k ≠ w.heap.size := fun e => t1 (by rw [← e]; exact hk)
   exact (Below.heap_setCell _ ⟨w.heap.size, 1, none⟩ _ k hne).trans (Below.heap_setCell _ ⟨w.heap.size, 0, none⟩ _ k hne))
 have HBF : Hid (Below w.heap.size w ((w9.setCell ⟨w.heap.size, 0, none⟩ (.slice a4 n c4)).setCell ⟨w.heap.size, 1, none⟩ (.slice none 0 0))) := Lib.hid (((bthn HB1.out HBE.out).setCell (p := ⟨w.heap.size, 0, none⟩) (Nat.le_refl _) _).setCell (p := ⟨w.heap.size, 1, none⟩) (Nat.le_refl _) _)
 go_wp2_with fail
 go_ret
 exact ⟨w.heap.size, _, rfl, HFN.out, HBF.out⟩
set_option maxRecDepth 100000 in
set_option maxHeartbeats 12800000 in
theorem sload_none (n0 : Nat) (w : World) (B : Nat) (iv jv : Value) (d : Dk) (h : DkAt n0 w B iv jv d) (hk : 8 ≤ d.img.length) (hn : d.img.length ≤ 1000000) (Sf : Nat → Su) (ef : Nat → Int) (ho : ∀ i, i < 2 → OfR (rdB d.img i) (Sf i) (ef i)) (ht : ∀ i, i < 2 → (Sf i).tx < 18446744073709551616) (hb : (bestS Sf ef 2).tx = 0) :
  Calls Tryz.prog 27 #[.pointer (some ⟨B, 0, none⟩)] w fun e w' => e = .returned (.tuple #[.agg suZ.toArray, .int .i64 6]) ∧ Below w.heap.size w w' := by
 have HH := Lib.hid h
 have HO := Lib.hid ho
 have HKN := Lib.hid (And.intro hk hn)
 have HBT := Lib.hid hb
 have HT := Lib.hid ht
 obtain ⟨w1, hw1⟩ : ∃ W, w.alloc (.cells #[.int .u64 0, .int .i64 0, .int .i64 0, .int .u32 0, .int .u32 0, .int .u32 0, .int .u32 0, .int .u32 0, .int .u32 0, .int .u32 0, .int .u32 0, .int .u32 0, .int .i64 0, .int .u64 0, .int .u64 0, .int .u64 0, .int .u64 0, .int .u64 0, .bool false] 72) = W := ⟨_, rfl⟩
 have HB1 : Hid (Below w.heap.size w w1) := Lib.hid (by rw [← hw1]; exact balloc (Below.refl _ _) _)
 have HX1 : Hid (w1.heap[w.heap.size]? = some (.cells (suL suO).toArray 72 (0, 0))) := Lib.hid (by rw [← hw1]; exact suO_box _)
 obtain ⟨w2, hw2⟩ : ∃ W, w1.alloc (.cells #[.int .u64 0, .int .i64 0, .int .i64 0, .int .u32 0, .int .u32 0, .int .u32 0, .int .u32 0, .int .u32 0, .int .u32 0, .int .u32 0, .int .u32 0, .int .u32 0, .int .i64 0, .int .u64 0, .int .u64 0, .int .u64 0, .int .u64 0, .int .u64 0, .bool false] 72) = W := ⟨_, rfl⟩
 have HL0 : Hid (SLd w1 w2 w1.heap.size suO) := Lib.hid ⟨by rw [← hw2]; exact balloc (Below.refl _ _) _, by rw [← hw2]; exact suO_box _⟩
 clear h hk hn ho hb ht
 go_enter Tryz.func27, Tryz.ntmps27
 go_wp2_with fail
 (try rw [hw1])
 (try rw [hw2])
 clear hw1 hw2
 go_loopw [9] (fun v wr => ∃ i : Nat, i ≤ 2 ∧ v = .int .i64 (i : Int) ∧ SLd w1 wr w1.heap.size (bestS Sf ef i)) (fun v _ => 2 - (Go.RowKit.intOf v).toNat)
 case atStart => exact ⟨0, by omega, rfl, HL0.out⟩
 case round =>
  obtain ⟨i, hi, rfl, hsl⟩ := hrel
  obtain ⟨bst, hbst⟩ : ∃ x, bestS Sf ef i = x := ⟨_, rfl⟩
  rw [hbst] at hsl
  have HSL := Lib.hid hsl
  have HBS := Lib.hid hbst
  clear hsl hbst
  by_cases hlt : i < 2
  ·have CR : Calls Tryz.prog 63 #[.pointer (some ⟨B, 0, none⟩), .int .i64 (i : Int)] wr fun e w' => e = .returned (.tuple #[bA (rdB d.img i), .int .i64 0]) ∧ Below wr.heap.size wr w' := by
    have hbw : Below w.heap.size w wr := bthn HB1.out HSL.out.1
    exact sread_at n0 wr B iv jv d (HH.out.below hbw) i (by have := HKN.out.1; omega) HKN.out.2
   have HBL : Hid ((rdB d.img i).length = 256) := Lib.hid (rdB_len HH.out.secs (by have := HKN.out.1; omega))
   have HOF := Lib.hid (HO.out i hlt)
   have HTI := Lib.hid (HT.out i hlt)
   have HNX : Hid (bestS Sf ef (i + 1) = stepS bst i (Sf i) (ef i)) := Lib.hid (by rw [← HBS.out]; rfl)
   obtain ⟨S, hS⟩ : ∃ x, Sf i = x := ⟨_, rfl⟩
   obtain ⟨er, her⟩ : ∃ x, ef i = x := ⟨_, rfl⟩
   obtain ⟨b, hbb⟩ : ∃ b, rdB d.img i = b := ⟨_, rfl⟩
   rw [hS, her] at HNX
   rw [hS, her, hbb] at HOF
   rw [hbb] at CR HBL
   rw [hS] at HTI
   clear hS her hbb
   go_wp2_with fail
   refine CR.mono ?_
   rintro e x1 ⟨rfl, hb1⟩
   have hrb : (bV b).toArray.size = 256 := by rw [List.size_toArray, bV_len, HBL.out]
   have hst := run_storeNew (P := Tryz.prog) x1 78 Tryz.zeroCells78 (bV b).toArray (by rw [hrb]; kernel_rfl) (fun u hu => bV_one b u (by simpa using hu))
   obtain ⟨x2, hx2⟩ : ∃ W, x1.alloc (.cells (bV b).toArray 78) = W := ⟨_, rfl⟩
   have hb2 : Below x1.heap.size x1 x2 := by rw [← hx2]; exact balloc (Below.refl _ _) _
   have hxb : BoxB x2 x1.heap.size b := by unfold BoxB; rw [← hx2]; exact heap_alloc_new _ _
   have HXB := Lib.hid hxb
   have HR2 : Hid (x2.rangeAt x1.heap.size 0 (bV b)) := Lib.hid (rangeOf hxb)
   have HB2 := Lib.hid (bthn hb1 hb2)
   have HIB : Hid ((Tryz.prog.info? 78).map (·.size) = some (bV b).length) := Lib.hid (by rw [bV_len, HBL.out]; exact infoBlk)
   rw [show bA b = .agg (bV b).toArray from rfl]
   rw [hx2] at hst
   have CO := HOF.out.2 x2
   rw [show bA b = .agg (bV b).toArray from rfl, suL_v] at CO
   obtain ⟨SL, hSLe⟩ : ∃ L, suL S = L := ⟨_, rfl⟩
   rw [hSLe] at CO
   have HSE := Lib.hid hSLe
   have HS19 : Hid (SL.length = 19) := Lib.hid (by rw [← hSLe]; rfl)
   have HS1 : Hid (∀ u ∈ SL, u.oneCell' = true) := Lib.hid (by rw [← hSLe]; exact suL_one S)
   have HS0 : Hid (SL[0]? = some (.int .u64 (S.tx : Int))) := Lib.hid (by rw [← hSLe]; rfl)
   clear CR hb1 hx2 hb2 hxb hSLe
   go_wp2_with (refine wpList_load_mid rfl 78 _ rfl x1.heap.size 0 rfl (bV b) _ HR2.out Tryz.underlying78 rfl HIB.out ?_)
   refine CO.mono ?_
   rintro e x3 ⟨rfl, hb3⟩
   dsimp only
   have HB3 := Lib.hid (bthn HB2.out hb3)
   have hss : SL.toArray.size = 19 := by rw [List.size_toArray, HS19.out]
   clear CO hb3 hst
   repeat (first
    | (refine wpList_store_mid rfl 72 _ _ rfl x3.heap.size 0 SL.toArray rfl rfl (thereOf (heap_alloc_new x3 _) (by rw [hss]; simp)) (by rw [hss]; exact infoSup) (Array.all_eq_true_iff_forall_mem.2 (fun v hv => HS1.out v (by simpa using hv))) ?_; refine Hid.out ?_)
    | go_step)
   refine Lib.hid ?_
   obtain ⟨x4, hx4⟩ : ∃ W, (x3.alloc (.cells #[.int .u64 0, .int .i64 0, .int .i64 0, .int .u32 0, .int .u32 0, .int .u32 0, .int .u32 0, .int .u32 0, .int .u32 0, .int .u32 0, .int .u32 0, .int .u32 0, .int .i64 0, .int .u64 0, .int .u64 0, .int .u64 0, .int .u64 0, .int .u64 0, .bool false] 72)).setCells x3.heap.size 0 SL = W := ⟨_, rfl⟩
   have HB4 : Hid (Below wr.heap.size wr x4) := Lib.hid (by rw [← hx4]; exact bthn HB3.out (belowSets (Nat.le_refl _) _ _ _ (balloc (Below.refl _ _) _)))
   obtain ⟨g4, hg4⟩ : ∃ g, x3.heap.size = g := ⟨_, rfl⟩
   have HR4 : Hid (x4.rangeAt g4 0 SL) := Lib.hid (by rw [← hx4, ← hg4]; exact World.rangeAt_setCells_same _ _ _ _ (thereOf (heap_alloc_new x3 _) (by rw [HS19.out]; simp)))
   have hc8 : x4.cell? ⟨g4, 0, none⟩ = some (.int .u64 (S.tx : Int)) := HR4.out 0 _ HS0.out
   have HSL4 : Hid (x4.heap[w1.heap.size]? = some (.cells (suL bst).toArray 72 (0, 0))) := Lib.hid ((HB4.out.block _ (Array.getElem?_eq_some_iff.1 HSL.out.2).1).trans HSL.out.2)
   have hc4 : x4.cell? ⟨w1.heap.size, 0, none⟩ = some (.int .u64 (bst.tx : Int)) := cellOf HSL4.out 0 (suL_tx bst)
   simp only [List.toList_toArray]
   rw [hx4]
   clear hx4
   obtain ⟨stx, hstx⟩ : ∃ x, S.tx = x := ⟨_, rfl⟩
   obtain ⟨btx, hbtx⟩ : ∃ x, bst.tx = x := ⟨_, rfl⟩
   rw [hstx] at hc8
   rw [hbtx] at hc4
   have HTX := Lib.hid (And.intro hstx hbtx)
   have htl : stx < 18446744073709551616 := by rw [← hstx]; exact HTI.out
   clear hstx hbtx
   have HQN : Hid (w1.heap.size < x4.heap.size ∧ g4 ≠ w1.heap.size) := Lib.hid ⟨(Array.getElem?_eq_some_iff.1 HSL4.out).1, by rw [← hg4]; have := HB3.out.size; have h2 := (Array.getElem?_eq_some_iff.1 HSL.out.2).1; omega⟩
   rw [hg4]
   clear hg4 hss hrb
   have HFN : Hid (∀ X, Below wr.heap.size wr X → (er ≠ 0 ∨ stx % 2 ≠ i ∨ ¬ btx < stx) → SLd w1 X w1.heap.size (bestS Sf ef (i + 1))) := Lib.hid (fun X hX hc => by
    rw [HNX.out]
    unfold stepS
    rw [if_neg (by rw [HTX.out.1, HTX.out.2]; rintro ⟨h1, h2, h3⟩; rcases hc with h | h | h <;> contradiction)]
    exact ⟨HSL.out.1.trans (hX.mono (Nat.le_of_lt (Array.getElem?_eq_some_iff.1 HSL.out.2).1)), (hX.block _ (Array.getElem?_eq_some_iff.1 HSL.out.2).1).trans HSL.out.2⟩)
   rcases HOF.out.1 with he | he
   ·subst he
    have hm2 : IntKind.i64.wrap ((stx : Int) % 2) = (stx : Int) % 2 := IntWalk.i64_in _ ⟨by omega, by omega⟩
    by_cases hm : stx % 2 = i
    ·have hme : (((stx : Int) % 2) == (i : Int)) = true := by simp; omega
     by_cases hl : btx < stx
     ·have hd1 : decide (btx < stx) = true := decide_eq_true hl
      have hd2 : decide ((btx : Int) < (stx : Int)) = true := decide_eq_true (by omega)
      go_upto_region 10 with fail
      have hss : SL.toArray.size = 19 := by rw [List.size_toArray, HS19.out]
      have HTH : Hid (x4.there w1.heap.size 0 19) := Lib.hid (thereOf HSL4.out (by simp [suL_len]))
      have HIS : Hid ((Tryz.prog.info? 72).map (·.size) = some SL.length) := Lib.hid (by rw [HS19.out]; exact infoSup)
      apply wp_region_lit
      repeat (first
       | (refine wpList_load_mid rfl 72 _ rfl g4 0 rfl SL _ HR4.out Tryz.underlying72 rfl HIS.out ?_)
       | (refine wpList_store_mid rfl 72 _ _ rfl w1.heap.size 0 SL.toArray rfl rfl (by rw [hss]; exact HTH.out) (by rw [hss]; exact infoSup) (Array.all_eq_true_iff_forall_mem.2 (fun v hv => HS1.out v (by simpa using hv))) ?_)
       | go_step)
      go_wp2_with fail
      go_roundw
      case rel => exact ⟨i + 1, by omega, by go_num, by
       rw [HNX.out]
       unfold stepS
       rw [if_pos ⟨rfl, by rw [HTX.out.1]; exact hm, by rw [HTX.out.1, HTX.out.2]; exact hl⟩]
       refine ⟨belowSets (Nat.le_refl _) _ _ _ (HSL.out.1.trans (HB4.out.mono (Nat.le_of_lt (Array.getElem?_eq_some_iff.1 HSL.out.2).1))), ?_⟩
       rw [HSE.out]
       exact sets_all HSL4.out (by rw [HS19.out]; rfl)⟩
      case measure => simp [Go.RowKit.intOf]; omega
     ·have hd1 : decide (btx < stx) = false := decide_eq_false hl
      have hd2 : decide ((btx : Int) < (stx : Int)) = false := decide_eq_false (by omega)
      go_wp2_with fail
      go_roundw
      case rel => exact ⟨i + 1, by omega, by go_num, HFN.out _ HB4.out (.inr (.inr hl))⟩
      case measure => simp [Go.RowKit.intOf]; omega
    ·have hme : (((stx : Int) % 2) == (i : Int)) = false := by simp; omega
     go_wp2_with fail
     go_roundw
     case rel => exact ⟨i + 1, by omega, by go_num, HFN.out _ HB4.out (.inr (.inl hm))⟩
     case measure => simp [Go.RowKit.intOf]; omega
   ·subst he
    go_wp2_with fail
    go_roundw
    case rel => exact ⟨i + 1, by omega, by go_num, HFN.out _ HB4.out (.inl (by decide))⟩
    case measure => simp [Go.RowKit.intOf]; omega
  ·obtain rfl : i = 2 := by omega
   have HX2 : Hid (wr.heap[w.heap.size]? = some (.cells (suL suO).toArray 72 (0, 0))) := Lib.hid ((HSL.out.1.block _ (Array.getElem?_eq_some_iff.1 HX1.out).1).trans HX1.out)
   have hc4 : wr.cell? ⟨w1.heap.size, 0, none⟩ = some (.int .u64 (bst.tx : Int)) := cellOf HSL.out.2 0 (suL_tx bst)
   have hbz : bst.tx = 0 := by
    have h1 := HBT.out
    rw [HBS.out] at h1
    exact h1
   rw [hbz] at hc4
   have HTH : Hid (wr.there w.heap.size 0 19) := Lib.hid (thereOf HX2.out (by simp [suL_len]))
   clear hbz
   go_upto_region 13 with fail
   apply wp_region_lit
   refine wpL_build0 (by kernel_rfl) 72 rfl suZ.toArray suZ_built ?_
   refine wpList_store_mid rfl 72 _ _ rfl w.heap.size 0 suZ.toArray rfl rfl HTH.out infoSup (by kernel_rfl) ?_
   repeat go_step
   refine bodyPost_ret (v := .tuple #[.agg suZ.toArray, .int .i64 6]) (res_sup rfl _ _ w.heap.size suZ _ rfl rfl (World.rangeAt_setCells_same _ _ _ _ HTH.out) infoSup) rfl ⟨rfl, ?_⟩
   exact belowSets (Nat.le_refl _) _ _ _ (bthn HB1.out HSL.out.1)
end Go.Proofs.YtgmahhdnjikdjaaGreat
/- A disk's copy, with a journal, walked. (Printed by mkrn3.py.) -/
namespace Go.Proofs.YtgmahhdnjikdjaaGreat
open Go.RowKit Wire
set_option linter.unusedVariables false
set_option linter.unusedSimpArgs false
theorem jrC_one (l : List (Nat × List UInt8)) : ∀ u ∈ jrC l, u.oneCell' = true := fun u hu => by
 obtain ⟨p, _, hp⟩ := List.mem_flatMap.1 hu
 rcases List.mem_cons.1 hp with rfl | hp
 ·rfl
 ·exact bV_one p.2 u hp
set_option maxRecDepth 100000 in
set_option maxHeartbeats 3200000 in
theorem cloneEnt (v : Value) (n b : Nat) (img : List (Nat × List UInt8)) (w : World) (h : w.ownsRow b 229 65 v n (jrC img)) (h0 : 0 < n) (hn : n ≤ 1000000) :
  Calls Tryz.prog 202 #[v] w fun e w' => ∃ v', e = .returned v' ∧ w'.ownsRow w.heap.size 229 65 v' n (jrC img) ∧ Below w.heap.size w w' := by
 have hrd := Rd.of_own h
 obtain ⟨g, c, cur, rfl, _⟩ := rowSome h h0
 have HO0 : Hid ((w.alloc (.cells #[] 229)).ownsRow w.heap.size 229 65 (.slice (some ⟨w.heap.size, 0, none⟩) 0 0) 0 []) := Lib.hid (World.ownsRow_made w #[] 0 (Nat.le_refl _) (by decide) rfl)
 have HRD := Lib.hid (hrd.below (balloc (Below.refl _ w) (.cells #[] 229)))
 have HL := Lib.hid hn
 obtain ⟨cs, hcs⟩ : ∃ x, jrC img = x := ⟨_, rfl⟩
 have HC1 : Hid (∀ u ∈ cs, u.oneCell' = true) := Lib.hid (by rw [← hcs]; exact jrC_one img)
 rw [hcs] at HRD ⊢
 have he := fun w a n c => Lib.run_eql_slice_nil (P := Tryz.prog) w 65 229 a n c 0 0 Tryz.underlying65
 clear h hrd hcs
 go_enter Tryz.func202, Tryz.ntmps202
 go_wp2_with (at_builtin; go_must (refine wpList_apps rfl _ _ 65 rfl w.heap.size 229 _ 65 72 Tryz.underlying65 infoEnt4 zEnt (by decide) (by decide) (.slice (some ⟨w.heap.size, 0, none⟩) 0 0) 0 [] (by rfl) HO0.out (.slice (some ⟨g, 0, none⟩) n c) n cs (by rfl) HRD.out HC1.out (by have := HL.out; omega) (by simp) ?_); intro v' w1 ho1 hb1 _ _ _)
 go_ret
 exact ⟨_, rfl, by simpa using ho1, (balloc (Below.refl _ w) _).trans hb1⟩
set_option maxRecDepth 100000 in
set_option maxHeartbeats 6400000 in
theorem dcopy_jr (n0 : Nat) (w : World) (B : Nat) (iv jv : Value) (d : Dk) (h : DkAt n0 w B iv jv d) (hj : 0 < d.jr.length ∧ d.jr.length ≤ 1000000) (h0 : 0 < d.img.length) (hn : d.img.length ≤ 1000000) :
  Calls Tryz.prog 184 #[.pointer (some ⟨B, 0, none⟩)] w fun e w' => ∃ B' iv' jv', e = .returned (.pointer (some ⟨B', 0, none⟩)) ∧ DkAt w.heap.size w' B' iv' jv' d ∧ Below w.heap.size w w' := by
 have CS := dsec_at n0 w B iv _ d h
 have HH := Lib.hid h
 have HJL := Lib.hid hj
 obtain ⟨ja, jc, rfl⟩ := rowSl h.jrn
 obtain ⟨jn, hjn⟩ : ∃ n, d.jr.length = n := ⟨_, rfl⟩
 have HJN := Lib.hid hjn
 have HEN2 := Lib.hid h.ents
 rw [hjn] at HJL
 have HSE2 := Lib.hid h.secs
 obtain ⟨a, c, rfl⟩ := rowSl h.img
 obtain ⟨n, hnn⟩ : ∃ n, d.img.length = n := ⟨_, rfl⟩
 have HNN := Lib.hid hnn
 rw [hnn] at CS h0 hn
 have hz : ((n : Int) == 0) = false := by simp; omega
 obtain ⟨lf, hlf⟩ : ∃ x, d.left = x := ⟨_, rfl⟩
 obtain ⟨dd, hdd⟩ : ∃ x, d.dead = x := ⟨_, rfl⟩
 have hbx := h.box
 rw [hlf, hdd, hnn, hjn] at hbx
 have HBX := Lib.hid hbx
 have HLF := Lib.hid (And.intro hlf hdd)
 have b0 := cellOf hbx 0 (v := .slice a n c) rfl
 have b1 := cellOf hbx 1 (v := .slice ja jn jc) rfl
 have b2 := cellOf hbx 2 (v := .int .i64 lf) rfl
 have b3 := cellOf hbx 3 (v := .bool dd) rfl
 clear h hj hnn hlf hdd hbx
 obtain ⟨w1, hw1⟩ : ∃ W, w.alloc (.cells #[.slice a n c, .slice ja jn jc, .int .i64 lf, .bool dd] 67) = W := ⟨_, rfl⟩
 have hb1 : Below w.heap.size w w1 := by rw [← hw1]; exact balloc (Below.refl _ _) _
 have HX1 : Hid (w1.heap[w.heap.size]? = some (.cells #[.slice a n c, .slice ja jn jc, .int .i64 lf, .bool dd] 67 (0, 0))) := Lib.hid (by rw [← hw1]; exact heap_alloc_new _ _)
 have HB1 := Lib.hid hb1
 have HXB : Hid (w1.heap[B]? = some (.cells #[.slice a n c, .slice ja jn jc, .int .i64 lf, .bool dd] 67 (0, 0))) := Lib.hid ((hb1.block _ (Array.getElem?_eq_some_iff.1 HBX.out).1).trans HBX.out)
 have HIM : Hid (w1.ownsRow n0 152 64 (.slice a n c) n (secsC d.img)) := Lib.hid (by have h1 := (HH.out.below hb1).img; rw [HNN.out] at h1; exact h1)
 have HBN : Hid (B ∉ [w.heap.size]) := Lib.hid (by have := (Array.getElem?_eq_some_iff.1 HBX.out).1; simp; omega)
 have HBL : Hid (B < w1.heap.size ∧ w.heap.size < w1.heap.size) := Lib.hid ⟨(Array.getElem?_eq_some_iff.1 HXB.out).1, (Array.getElem?_eq_some_iff.1 HX1.out).1⟩
 have CL : Hid (∀ X, Below w1.heap.size w1 X → Calls Tryz.prog 201 #[.slice a n c] X fun e w' => ∃ v', e = .returned v' ∧ w'.ownsRow X.heap.size 152 64 v' n (secsC d.img) ∧ Below X.heap.size X w') := Lib.hid (fun X hX => cloneSec _ n n0 _ X (ownsRow_below HIM.out hX) h0 hn)
 have HJM : Hid (w1.ownsRow n0 229 65 (.slice ja jn jc) jn (jrC d.jr)) := Lib.hid (by have h1 := (HH.out.below hb1).jrn; rw [HJN.out] at h1; exact h1)
 have CE : Hid (∀ X, Below w1.heap.size w1 X → Calls Tryz.prog 202 #[.slice ja jn jc] X fun e w' => ∃ v', e = .returned v' ∧ w'.ownsRow X.heap.size 229 65 v' jn (jrC d.jr) ∧ Below X.heap.size X w') := Lib.hid (fun X hX => cloneEnt _ jn n0 _ X (ownsRow_below HJM.out hX) HJL.out.1 HJL.out.2)
 have hst := run_storeNew (P := Tryz.prog) w 67 #[.slice none 0 0, .slice none 0 0, .int .i64 0, .bool false] #[.slice a n c, .slice ja jn jc, .int .i64 lf, .bool dd] rfl (fun u hu => by simp at hu; rcases hu with rfl | rfl | rfl | rfl <;> rfl)
 clear hb1
 go_enter Tryz.func184, Tryz.ntmps184
 go_wp2_with fail
 refine CS.mono ?_
 rintro e w2 ⟨rfl, rfl⟩
 clear CS
 go_upto_region 4 with fail
 clear hst b0 b1 b2 b3 hw1
 have HSS : Hid (∀ X, Mods [w.heap.size] w1 X → (X.cell? ⟨B, 0, none⟩ = some (.slice a n c) ∧ X.cell? ⟨B, 1, none⟩ = some (.slice ja jn jc)) ∧ Mods [w.heap.size] w1 X) := Lib.hid (fun X hb => ⟨⟨(World.cell?_of_block (hb.block _ (HBL.out.1) (HBN.out))).trans (cellOf HXB.out 0 rfl), (World.cell?_of_block (hb.block _ (HBL.out.1) (HBN.out))).trans (cellOf HXB.out 1 rfl)⟩, hb⟩)
 refine wp_region_held_drew (S := fun X => (X.cell? ⟨B, 0, none⟩ = some (.slice a n c) ∧ X.cell? ⟨B, 1, none⟩ = some (.slice ja jn jc)) ∧ Mods [w.heap.size] w1 X) (by kernel_rfl) (HSS.out _ (Mods.of_below (Below.refl _ _).drew)) (fun hHeld => ?_)
 have hbe : Below w1.heap.size w1 w1.drew := (Below.refl _ _).drew
 obtain ⟨wd, hwd⟩ : ∃ y, w1.drew = y := ⟨_, rfl⟩
 rw [hwd] at hHeld hbe ⊢
 have HBE := Lib.hid hbe
 have HS0 : Hid (w1.heap.size ≤ wd.heap.size) := Lib.hid HBE.out.size
 clear hwd hbe
 refine wpAnyH_take (i := 0) (v := ?_) rfl (by kernel_rfl) (by kernel_rfl) (by kernel_rfl) (fun _ _ _ h => h) (Or.inl ⟨by rfl, ?_⟩) (by assumption) ?_
 rotate_left
 ·(intro w hSw; (try dsimp only at hSw); simp only [List.getElem_toArray, List.getElem_cons_zero, List.getElem_cons_succ]; go_simp; first | done | with_reducible rfl)
 simp only [List.getElem_toArray, List.getElem_cons_zero, List.getElem_cons_succ, Act.put, List.setIfInBounds_toArray, List.set_cons_zero, List.set_cons_succ]
 refine wpAnyH_take (i := 5) (v := ?_) rfl (by kernel_rfl) (by kernel_rfl) (by kernel_rfl) (fun _ _ _ h => h) (Or.inl ⟨by rfl, ?_⟩) (by assumption) ?_
 rotate_left
 ·(intro w hSw; (try dsimp only at hSw); simp only [List.getElem_toArray, List.getElem_cons_zero, List.getElem_cons_succ]; go_simp; first | done | with_reducible rfl)
 simp only [List.getElem_toArray, List.getElem_cons_zero, List.getElem_cons_succ, Act.put, List.setIfInBounds_toArray, List.set_cons_zero, List.set_cons_succ]
 refine wpAnyH_take (i := 1) (v := ?_) rfl (by kernel_rfl) (by kernel_rfl) (by kernel_rfl) (fun _ _ _ h => h) (Or.inl ⟨by rfl, ?_⟩) (by assumption) ?_
 rotate_left
 ·(intro w hSw; (try dsimp only at hSw); simp only [List.getElem_toArray, List.getElem_cons_zero, List.getElem_cons_succ]; go_simp; first | done | with_reducible rfl)
 simp only [List.getElem_toArray, List.getElem_cons_zero, List.getElem_cons_succ, Act.put, List.setIfInBounds_toArray, List.set_cons_zero, List.set_cons_succ]
 refine wpAnyH_take (i := 6) (v := ?_) rfl (by kernel_rfl) (by kernel_rfl) (by kernel_rfl) (fun _ _ _ h => h) (Or.inl ⟨by rfl, ?_⟩) (by assumption) ?_
 rotate_left
 ·(intro w hSw; (try dsimp only at hSw); simp only [List.getElem_toArray, List.getElem_cons_zero, List.getElem_cons_succ]; go_simp; first | done | with_reducible rfl)
 simp only [List.getElem_toArray, List.getElem_cons_zero, List.getElem_cons_succ, Act.put, List.setIfInBounds_toArray, List.set_cons_zero, List.set_cons_succ]
 refine wpAnyH_take (i := 2) (v := ?_) rfl (by kernel_rfl) (by kernel_rfl) (by kernel_rfl) (fun _ _ _ h => h) (Or.inl ⟨by rfl, ?_⟩) (by assumption) ?_
 rotate_left
 ·(intro w hSw; (try dsimp only at hSw); simp only [List.getElem_toArray, List.getElem_cons_zero, List.getElem_cons_succ]; go_simp; first | done | with_reducible rfl)
 simp only [List.getElem_toArray, List.getElem_cons_zero, List.getElem_cons_succ, Act.put, List.setIfInBounds_toArray, List.set_cons_zero, List.set_cons_succ]
 refine wpAnyH_take (i := 7) (v := ?_) rfl (by kernel_rfl) (by kernel_rfl) (by kernel_rfl) (fun _ _ _ h => h) (Or.inl ⟨by rfl, ?_⟩) (by assumption) ?_
 rotate_left
 ·(intro w hSw; (try dsimp only at hSw); simp only [List.getElem_toArray, List.getElem_cons_zero, List.getElem_cons_succ]; go_simp; first | done | with_reducible rfl)
 simp only [List.getElem_toArray, List.getElem_cons_zero, List.getElem_cons_succ, Act.put, List.setIfInBounds_toArray, List.set_cons_zero, List.set_cons_succ]
 refine wpAnyH_take (i := 3) (v := ?_) rfl (by kernel_rfl) (by kernel_rfl) (by kernel_rfl) (fun _ _ _ h => h) (Or.inl ⟨by rfl, ?_⟩) (by assumption) ?_
 rotate_left
 ·(intro w hSw; (try dsimp only at hSw); simp only [List.getElem_toArray, List.getElem_cons_zero, List.getElem_cons_succ]; go_simp; first | done | with_reducible rfl)
 simp only [List.getElem_toArray, List.getElem_cons_zero, List.getElem_cons_succ, Act.put, List.setIfInBounds_toArray, List.set_cons_zero, List.set_cons_succ]
 refine wpAnyH_take (i := 8) (v := ?_) rfl (by kernel_rfl) (by kernel_rfl) (by kernel_rfl) (fun _ _ _ h => h) (Or.inl ⟨by rfl, ?_⟩) (by assumption) ?_
 rotate_left
 ·(intro w hSw; (try dsimp only at hSw); simp only [List.getElem_toArray, List.getElem_cons_zero, List.getElem_cons_succ]; go_simp; first | done | with_reducible rfl)
 simp only [List.getElem_toArray, List.getElem_cons_zero, List.getElem_cons_succ, Act.put, List.setIfInBounds_toArray, List.set_cons_zero, List.set_cons_succ]
 refine wpAnyH_ready (rs := [4]) (by kernel_rfl) (by simp) ?_
 refine AllReadyH.cons rfl (fun K hK => ?_) (AllReadyH.nil)
 simp only [List.getElem_toArray, List.getElem_cons_zero, List.getElem_cons_succ]
 go_simp
 refine (CL.out _ HBE.out).mono ?_
 rintro e w4 ⟨v4, rfl, ho4, hb4⟩
 dsimp only
 have HBE := Lib.hid (bthen HBE.out hb4)
 have hSp := HSS.out _ (Mods.of_below HBE.out)
 clear hHeld
 refine hK.out _ _ hSp (fun hHeld => ?_)
 clear hSp hK K
 try simp only [Act.put, List.setIfInBounds_toArray, List.set_cons_zero, List.set_cons_succ]
 obtain ⟨a4, c4, rfl⟩ := rowSl ho4
 have HO4 := Lib.hid ho4
 have HLO : Hid (w.heap.size ≤ wd.heap.size) := Lib.hid (Nat.le_trans HB1.out.size HS0.out)
 clear ho4
 have HC4 := Lib.hid hb4
 clear hb4
 refine wpAnyH_ready (rs := [9]) (by kernel_rfl) (by simp) ?_
 refine AllReadyH.cons rfl (fun K hK => ?_) (AllReadyH.nil)
 simp only [List.getElem_toArray, List.getElem_cons_zero, List.getElem_cons_succ]
 go_simp
 refine (CE.out _ HBE.out).mono ?_
 rintro e w9 ⟨v9, rfl, ho9, hb9⟩
 dsimp only
 have HBE := Lib.hid (bthen HBE.out hb9)
 have hSp := HSS.out _ (Mods.of_below HBE.out)
 clear hHeld
 refine hK.out _ _ hSp (fun hHeld => ?_)
 clear hSp hK K
 try simp only [Act.put, List.setIfInBounds_toArray, List.set_cons_zero, List.set_cons_succ]
 obtain ⟨a9, c9, rfl⟩ := rowSl ho9
 have HO99 := Lib.hid ho9
 have HLO9 : Hid (w.heap.size ≤ w4.heap.size) := Lib.hid (Nat.le_trans HLO.out HC4.out.size)
 clear ho9
 have HC9 := Lib.hid hb9
 clear hb9
 refine wpAnyH_take (i := 10) (v := ?_) rfl (by kernel_rfl) (by kernel_rfl) (by kernel_rfl) (fun _ _ _ h => h) (Or.inl ⟨by rfl, ?_⟩) (by assumption) ?_
 rotate_left
 ·(intro w hSw; (try dsimp only at hSw); simp only [List.getElem_toArray, List.getElem_cons_zero, List.getElem_cons_succ]; go_simp; first | done | with_reducible rfl)
 simp only [List.getElem_toArray, List.getElem_cons_zero, List.getElem_cons_succ, Act.put, List.setIfInBounds_toArray, List.set_cons_zero, List.set_cons_succ]
 refine wpAnyH_ready (rs := [11]) (by kernel_rfl) (by simp) ?_
 refine AllReadyH.cons rfl (fun K hK => ?_) (AllReadyH.nil)
 have hox := (HBE.out.block _ HBL.out.2).trans HX1.out
 have hc11 := cellOf hox 0 (v := .slice a n c) rfl
 have hf11 := frozenOf hox 0
 simp only [List.getElem_toArray, List.getElem_cons_zero, List.getElem_cons_succ]
 go_simp
 refine hK.out _ _ ?_ (fun hHeld => ?_)
 ·exact HSS.out _ ((Mods.of_below HBE.out).setCell (p := ⟨w.heap.size, 0, none⟩) (List.mem_singleton.2 rfl) _)
 clear hK K
 try simp only [Act.put, List.setIfInBounds_toArray, List.set_cons_zero, List.set_cons_succ]
 clear hc11 hf11 hox
 refine wpAnyH_take (i := 12) (v := ?_) rfl (by kernel_rfl) (by kernel_rfl) (by kernel_rfl) (fun _ _ _ h => h) (Or.inl ⟨by rfl, ?_⟩) (by assumption) ?_
 rotate_left
 ·(intro w hSw; (try dsimp only at hSw); simp only [List.getElem_toArray, List.getElem_cons_zero, List.getElem_cons_succ]; go_simp; first | done | with_reducible rfl)
 simp only [List.getElem_toArray, List.getElem_cons_zero, List.getElem_cons_succ, Act.put, List.setIfInBounds_toArray, List.set_cons_zero, List.set_cons_succ]
 refine wpAnyH_ready (rs := [13]) (by kernel_rfl) (by simp) ?_
 refine AllReadyH.cons rfl (fun K hK => ?_) (AllReadyH.nil)
 have hox := setOf ((HBE.out.block _ HBL.out.2).trans HX1.out) 0 (.slice a4 n c4)
 have hc13 := cellOf hox 1 (v := .slice ja jn jc) rfl
 have hf13 := frozenOf hox 1
 simp only [List.getElem_toArray, List.getElem_cons_zero, List.getElem_cons_succ]
 go_simp
 refine hK.out _ _ ?_ (fun hHeld => ?_)
 ·exact HSS.out _ (((Mods.of_below HBE.out).setCell (p := ⟨w.heap.size, 0, none⟩) (List.mem_singleton.2 rfl) _).setCell (p := ⟨w.heap.size, 1, none⟩) (List.mem_singleton.2 rfl) _)
 clear hK K
 try simp only [Act.put, List.setIfInBounds_toArray, List.set_cons_zero, List.set_cons_succ]
 clear hc13 hf13 hox
 refine wpAnyH_done (by kernel_rfl) ?_ _
 have HEND := Lib.hid hHeld.2
 have HSE := Lib.hid hHeld.1
 clear hHeld
 clear HSS HSE HEND
 have HO9 : Hid (w9.ownsRow w.heap.size 152 64 (.slice a4 n c4) n (secsC d.img)) := Lib.hid (ownsRow_below (ownsRow_base HO4.out HLO.out) HC9.out)
 have HOX : Hid (w9.heap[w.heap.size]? = some (.cells #[.slice a n c, .slice ja jn jc, .int .i64 lf, .bool dd] 67 (0, 0))) := Lib.hid ((HBE.out.block _ HBL.out.2).trans HX1.out)
 have HFN : Hid (DkAt w.heap.size ((w9.setCell ⟨w.heap.size, 0, none⟩ (.slice a4 n c4)).setCell ⟨w.heap.size, 1, none⟩ (.slice a9 jn c9)) w.heap.size (.slice a4 n c4) (.slice a9 jn c9) d) := Lib.hid (by
  have q1 := setOf HOX.out 0 (.slice a4 n c4)
  have q2 := setOf q1 1 (.slice a9 jn c9)
  have hne : ∀ (v : Value) (k z : Nat) (t : TypeId) (xs : List Value), t ≠ 67 → w9.ownsRow w.heap.size t z v k xs → ((w9.setCell ⟨w.heap.size, 0, none⟩ (.slice a4 n c4)).setCell ⟨w.heap.size, 1, none⟩ (.slice a9 jn c9)).ownsRow w.heap.size t z v k xs := fun v k z t xs ht ho => by
   have t1 : w.heap.size ∉ ob v := ob_tag ho HOX.out (fun e => ht e.symm)
   refine ownsRow_at ho (fun k hk => ?_)
   have hne : k ≠ w.heap.size := fun e => t1 (by rw [← e]; exact hk)
   exact (Below.heap_setCell _ ⟨w.heap.size, 1, none⟩ _ k hne).trans (Below.heap_setCell _ ⟨w.heap.size, 0, none⟩ _ k hne)
  refine ⟨?_, ?_, ?_, HSE2.out, HEN2.out, Nat.le_refl _⟩
  ·rw [HLF.out.1, HLF.out.2]
   exact q2
  ·rw [HNN.out]
   exact hne _ _ _ _ _ (by decide) HO9.out
  ·rw [HJN.out]
   exact hne _ _ _ _ _ (by decide) (ownsRow_base HO99.out HLO9.out))
 have HBF : Hid (Below w.heap.size w ((w9.setCell ⟨w.heap.size, 0, none⟩ (.slice a4 n c4)).setCell ⟨w.heap.size, 1, none⟩ (.slice a9 jn c9))) := Lib.hid (((bthn HB1.out HBE.out).setCell (p := ⟨w.heap.size, 0, none⟩) (Nat.le_refl _) _).setCell (p := ⟨w.heap.size, 1, none⟩) (Nat.le_refl _) _)
 go_wp2_with fail
 go_ret
 exact ⟨w.heap.size, _, _, rfl, HFN.out, HBF.out⟩
end Go.Proofs.YtgmahhdnjikdjaaGreat
