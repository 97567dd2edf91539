import Derived.Test.YtgmahhdnjikdjaaGreatVG26
import Derived.Test.YtgmahhdnjikdjaaGreatVG30
import Derived.Test.YtgmahhdnjikdjaaGreatVG23
import Derived.Test.YtgmahhdnjikdjaaGreatVG28
set_option linter.unusedVariables false
set_option linter.unusedSimpArgs false
/- btree.Put into a tree that is a leaf, from put's contract, where put answers another number, walked. (Printed by mkbt12.py.) -/
namespace Go.Proofs.YtgmahhdnjikdjaaGreat
open Go.RowKit Go.Maps Wire
set_option linter.unusedVariables false
set_option linter.unusedSimpArgs false
/-- What Put leaves then. -/
def PutTS (w : World) (S B pm pd mf md : Nat) (s : Su) (A D : M) (Fm Fd : List Nat) (l : List (Nat × (NdV × Nd))) (o : Nat) (y : Nd) (ov : Nat) (had : Bool) (e : Ending) (w' : World) : Prop :=
 ∃ x, e = .returned (.tuple #[.int .u32 (o : Int), .int .u64 (ov : Int), .bool had, .int .i64 0]) ∧ StF w' S B pm pd mf md s A D Fm Fd (putA o (x, y) l) ∧ Mods (mf :: (Fm ++ Fd)) w w' ∧ ∀ k ∈ obN x, w.heap.size ≤ k
set_option maxRecDepth 100000 in
set_option maxHeartbeats 6400000 in
theorem tPutS_by {w : World} {S B pm pd mf md : Nat} {s : Su} {A D A2 D2 : M} {Fm Fd : List Nat} {l : List (Nat × (NdV × Nd))} (h : StF w S B pm pd mf md s A D Fm Fd l) (i o : Nat) (h0 : i ≠ 0) (hi9 : i < A.now.length) (kd : Int) (hkd : kd = 2 ∨ kd = 3) (key val : Nat) (yn : Nd) (ov : Nat) (ohad : Bool)
  (hp : ∀ X, Below w.heap.size w X → Calls Tryz.prog 78 #[.pointer (some ⟨S, 0, none⟩), .int .u32 (i : Int), .int .i64 kd, .agg #[.int .u64 (key : Int), .int .u64 (val : Int)], .int .i64 0] X (PutSP X S B pm pd mf md s A2 D2 Fm Fd l o yn ov ohad)) :
  Calls Tryz.prog 33 #[.pointer (some ⟨S, 0, none⟩), .int .u32 (i : Int), .int .i64 kd, .int .u64 (key : Int), .int .u64 (val : Int)] w (PutTS w S B pm pd mf md s A2 D2 Fm Fd l o yn ov ohad) := by
 have hm9 := h.st.mok.max
 have hi0 : ((i : Int) == 0) = false := by simp; omega
 have CM := tmay_in h.st i hi9
 have CP := Lib.hid hp
 clear h hp
 rcases hkd with rfl | rfl
 ·skip
  go_enter Tryz.func33, Tryz.ntmps33
  go_wp2_with fail
  refine CM.mono ?_
  rintro e w1 ⟨rfl, hb1⟩
  have HB1 := Lib.hid hb1
  have C := CP.out w1 hb1
  clear CM hb1
  go_upto_region 9 with fail
  apply wp_region_lit
  iterate 15 go_step
  refine wpL_build (by kernel_rfl) 94 _ rfl _ (by simp only [List.map_toArray, List.map_cons, List.map_nil]; rfl) _ (pair_built _ _) ?_
  dsimp only [Act.put]
  go_wp2_with fail
  refine C.mono ?_
  rintro e w2 ⟨x2, rfl, hst, hms, hge⟩
  have HS2 := Lib.hid hst
  have HM2 : Hid (Mods (mf :: (Fm ++ Fd)) w w2) := Lib.hid ((Mods.of_below HB1.out).trans hms (fun k hk => .inl hk))
  have HG2 : Hid (∀ k ∈ obN x2, w.heap.size ≤ k) := Lib.hid (fun k hk => Nat.le_trans HB1.out.size (hge k hk))
  clear C hst hms hge
  dsimp only
  obtain ⟨fk, hfk⟩ : ∃ z, yn.keys.getD 0 0 = z := ⟨_, rfl⟩
  rw [hfk]
  clear hfk
  obtain ⟨w3, hw3⟩ : ∃ W, w2.alloc (.cells #[.int .u32 (o : Int), .int .u32 0, .int .u64 (fk : Int), .int .u64 0, .int .u64 (ov : Int), .bool ohad] 167) = W := ⟨_, rfl⟩
  have hb3 : Below w2.heap.size w2 w3 := by rw [← hw3]; exact balloc (Below.refl _ _) _
  have hx3 : w3.heap[w2.heap.size]? = some (.cells #[.int .u32 (o : Int), .int .u32 0, .int .u64 (fk : Int), .int .u64 0, .int .u64 (ov : Int), .bool ohad] 167 (0, 0)) := by rw [← hw3]; exact heap_alloc_new _ _
  have HX3 := Lib.hid hx3
  have HS3 := Lib.hid (HS2.out.below hb3)
  have HM3 := Lib.hid (HM2.out.thenBelow hb3)
  obtain ⟨g, hg⟩ : ∃ g, w2.heap.size = g := ⟨_, rfl⟩
  rw [hg] at HX3
  have t1 := cellOf HX3.out 1 (v := .int .u32 0) rfl
  clear hb3 hx3
  go_upto_region 14 with fail
  (try rw [hw3])
  (try rw [hg])
  clear hw3 hg t1
  have HSS : Hid (∀ X, Below w3.heap.size w3 X → (X.cell? ⟨g, 0, none⟩ = some (.int .u32 (o : Int)) ∧ X.cell? ⟨g, 4, none⟩ = some (.int .u64 (ov : Int)) ∧ X.cell? ⟨g, 5, none⟩ = some (.bool ohad)) ∧ Below w3.heap.size w3 X) := Lib.hid (fun X hb => ⟨⟨(World.cell?_of_block (hb.block _ ((Array.getElem?_eq_some_iff.1 HX3.out).1))).trans (cellOf HX3.out 0 rfl), (World.cell?_of_block (hb.block _ ((Array.getElem?_eq_some_iff.1 HX3.out).1))).trans (cellOf HX3.out 4 rfl), (World.cell?_of_block (hb.block _ ((Array.getElem?_eq_some_iff.1 HX3.out).1))).trans (cellOf HX3.out 5 rfl)⟩, hb⟩)
  refine wp_region_held_drew (S := fun X => (X.cell? ⟨g, 0, none⟩ = some (.int .u32 (o : Int)) ∧ X.cell? ⟨g, 4, none⟩ = some (.int .u64 (ov : Int)) ∧ X.cell? ⟨g, 5, none⟩ = some (.bool ohad)) ∧ Below w3.heap.size w3 X) (by kernel_rfl) (HSS.out _ (Below.refl _ _).drew) (fun hHeld => ?_)
  have hbe : Below w3.heap.size w3 w3.drew := (Below.refl _ _).drew
  obtain ⟨wd, hwd⟩ : ∃ y, w3.drew = y := ⟨_, rfl⟩
  rw [hwd] at hHeld hbe ⊢
  have HBE := Lib.hid hbe
  have HS0 : Hid (w3.heap.size ≤ wd.heap.size) := Lib.hid HBE.out.size
  clear hwd hbe
  refine wpAnyH_take (i := 0) (v := ?_) rfl (by kernel_rfl) (by kernel_rfl) (by kernel_rfl) (fun _ _ _ h => h) (Or.inl ⟨by rfl, ?_⟩) (by assumption) ?_
  rotate_left
  ·(intro w hSw; (try dsimp only at hSw); simp only [List.getElem_toArray, List.getElem_cons_zero, List.getElem_cons_succ]; go_simp; first | done | with_reducible rfl)
  simp only [List.getElem_toArray, List.getElem_cons_zero, List.getElem_cons_succ, Act.put, List.setIfInBounds_toArray, List.set_cons_zero, List.set_cons_succ]
  refine wpAnyH_take (i := 2) (v := ?_) rfl (by kernel_rfl) (by kernel_rfl) (by kernel_rfl) (fun _ _ _ h => h) (Or.inl ⟨by rfl, ?_⟩) (by assumption) ?_
  rotate_left
  ·(intro w hSw; (try dsimp only at hSw); simp only [List.getElem_toArray, List.getElem_cons_zero, List.getElem_cons_succ]; go_simp; first | done | with_reducible rfl)
  simp only [List.getElem_toArray, List.getElem_cons_zero, List.getElem_cons_succ, Act.put, List.setIfInBounds_toArray, List.set_cons_zero, List.set_cons_succ]
  refine wpAnyH_take (i := 4) (v := ?_) rfl (by kernel_rfl) (by kernel_rfl) (by kernel_rfl) (fun _ _ _ h => h) (Or.inl ⟨by rfl, ?_⟩) (by assumption) ?_
  rotate_left
  ·(intro w hSw; (try dsimp only at hSw); simp only [List.getElem_toArray, List.getElem_cons_zero, List.getElem_cons_succ]; go_simp; first | done | with_reducible rfl)
  simp only [List.getElem_toArray, List.getElem_cons_zero, List.getElem_cons_succ, Act.put, List.setIfInBounds_toArray, List.set_cons_zero, List.set_cons_succ]
  refine wpAnyH_take (i := 1) (v := ?_) rfl (by kernel_rfl) (by kernel_rfl) (by kernel_rfl) (fun _ _ _ h => h) (Or.inl ⟨by rfl, ?_⟩) (by assumption) ?_
  rotate_left
  ·(intro w hSw; (try dsimp only at hSw); simp only [List.getElem_toArray, List.getElem_cons_zero, List.getElem_cons_succ]; go_simp; first | done | with_reducible rfl)
  simp only [List.getElem_toArray, List.getElem_cons_zero, List.getElem_cons_succ, Act.put, List.setIfInBounds_toArray, List.set_cons_zero, List.set_cons_succ]
  refine wpAnyH_take (i := 3) (v := ?_) rfl (by kernel_rfl) (by kernel_rfl) (by kernel_rfl) (fun _ _ _ h => h) (Or.inl ⟨by rfl, ?_⟩) (by assumption) ?_
  rotate_left
  ·(intro w hSw; (try dsimp only at hSw); simp only [List.getElem_toArray, List.getElem_cons_zero, List.getElem_cons_succ]; go_simp; first | done | with_reducible rfl)
  simp only [List.getElem_toArray, List.getElem_cons_zero, List.getElem_cons_succ, Act.put, List.setIfInBounds_toArray, List.set_cons_zero, List.set_cons_succ]
  refine wpAnyH_take (i := 5) (v := ?_) rfl (by kernel_rfl) (by kernel_rfl) (by kernel_rfl) (fun _ _ _ h => h) (Or.inl ⟨by rfl, ?_⟩) (by assumption) ?_
  rotate_left
  ·(intro w hSw; (try dsimp only at hSw); simp only [List.getElem_toArray, List.getElem_cons_zero, List.getElem_cons_succ]; go_simp; first | done | with_reducible rfl)
  simp only [List.getElem_toArray, List.getElem_cons_zero, List.getElem_cons_succ, Act.put, List.setIfInBounds_toArray, List.set_cons_zero, List.set_cons_succ]
  refine wpAnyH_take (i := 6) (v := ?_) rfl (by kernel_rfl) (by kernel_rfl) (by kernel_rfl) (fun _ _ _ h => h) (Or.inl ⟨by rfl, ?_⟩) (by assumption) ?_
  rotate_left
  ·(intro w hSw; (try dsimp only at hSw); simp only [List.getElem_toArray, List.getElem_cons_zero, List.getElem_cons_succ]; go_simp; first | done | with_reducible rfl)
  simp only [List.getElem_toArray, List.getElem_cons_zero, List.getElem_cons_succ, Act.put, List.setIfInBounds_toArray, List.set_cons_zero, List.set_cons_succ]
  refine wpAnyH_take (i := 7) (v := ?_) rfl (by kernel_rfl) (by kernel_rfl) (by kernel_rfl) (fun _ _ _ h => h) (Or.inl ⟨by rfl, ?_⟩) (by assumption) ?_
  rotate_left
  ·(intro w hSw; (try dsimp only at hSw); simp only [List.getElem_toArray, List.getElem_cons_zero, List.getElem_cons_succ]; go_simp; first | done | with_reducible rfl)
  simp only [List.getElem_toArray, List.getElem_cons_zero, List.getElem_cons_succ, Act.put, List.setIfInBounds_toArray, List.set_cons_zero, List.set_cons_succ]
  refine wpAnyH_take (i := 8) (v := ?_) rfl (by kernel_rfl) (by kernel_rfl) (by kernel_rfl) (fun _ _ _ h => h) (Or.inl ⟨by rfl, ?_⟩) (by assumption) ?_
  rotate_left
  ·(intro w hSw; (try dsimp only at hSw); simp only [List.getElem_toArray, List.getElem_cons_zero, List.getElem_cons_succ]; go_simp; first | done | with_reducible rfl)
  simp only [List.getElem_toArray, List.getElem_cons_zero, List.getElem_cons_succ, Act.put, List.setIfInBounds_toArray, List.set_cons_zero, List.set_cons_succ]
  refine wpAnyH_take (i := 9) (v := ?_) rfl (by kernel_rfl) (by kernel_rfl) (by kernel_rfl) (fun _ _ _ h => h) (Or.inl ⟨by rfl, ?_⟩) (by assumption) ?_
  rotate_left
  ·(intro w hSw; (try dsimp only at hSw); simp only [List.getElem_toArray, List.getElem_cons_zero, List.getElem_cons_succ]; go_simp; first | done | with_reducible rfl)
  simp only [List.getElem_toArray, List.getElem_cons_zero, List.getElem_cons_succ, Act.put, List.setIfInBounds_toArray, List.set_cons_zero, List.set_cons_succ]
  refine wpAnyH_done (by kernel_rfl) ?_ _
  have HEND := Lib.hid hHeld.2
  have HSE := Lib.hid hHeld.1
  clear hHeld
  clear HSS HSE HEND
  go_wp2_with fail
  refine bodyPost_ret (results_tmp4 rfl _ _ _) rfl ?_
  exact ⟨x2, rfl, HS3.out.below HBE.out, HM3.out.thenBelow HBE.out, HG2.out⟩
 ·skip
  go_enter Tryz.func33, Tryz.ntmps33
  go_wp2_with fail
  refine CM.mono ?_
  rintro e w1 ⟨rfl, hb1⟩
  have HB1 := Lib.hid hb1
  have C := CP.out w1 hb1
  clear CM hb1
  go_upto_region 9 with fail
  apply wp_region_lit
  iterate 15 go_step
  refine wpL_build (by kernel_rfl) 94 _ rfl _ (by simp only [List.map_toArray, List.map_cons, List.map_nil]; rfl) _ (pair_built _ _) ?_
  dsimp only [Act.put]
  go_wp2_with fail
  refine C.mono ?_
  rintro e w2 ⟨x2, rfl, hst, hms, hge⟩
  have HS2 := Lib.hid hst
  have HM2 : Hid (Mods (mf :: (Fm ++ Fd)) w w2) := Lib.hid ((Mods.of_below HB1.out).trans hms (fun k hk => .inl hk))
  have HG2 : Hid (∀ k ∈ obN x2, w.heap.size ≤ k) := Lib.hid (fun k hk => Nat.le_trans HB1.out.size (hge k hk))
  clear C hst hms hge
  dsimp only
  obtain ⟨fk, hfk⟩ : ∃ z, yn.keys.getD 0 0 = z := ⟨_, rfl⟩
  rw [hfk]
  clear hfk
  obtain ⟨w3, hw3⟩ : ∃ W, w2.alloc (.cells #[.int .u32 (o : Int), .int .u32 0, .int .u64 (fk : Int), .int .u64 0, .int .u64 (ov : Int), .bool ohad] 167) = W := ⟨_, rfl⟩
  have hb3 : Below w2.heap.size w2 w3 := by rw [← hw3]; exact balloc (Below.refl _ _) _
  have hx3 : w3.heap[w2.heap.size]? = some (.cells #[.int .u32 (o : Int), .int .u32 0, .int .u64 (fk : Int), .int .u64 0, .int .u64 (ov : Int), .bool ohad] 167 (0, 0)) := by rw [← hw3]; exact heap_alloc_new _ _
  have HX3 := Lib.hid hx3
  have HS3 := Lib.hid (HS2.out.below hb3)
  have HM3 := Lib.hid (HM2.out.thenBelow hb3)
  obtain ⟨g, hg⟩ : ∃ g, w2.heap.size = g := ⟨_, rfl⟩
  rw [hg] at HX3
  have t1 := cellOf HX3.out 1 (v := .int .u32 0) rfl
  clear hb3 hx3
  go_upto_region 14 with fail
  (try rw [hw3])
  (try rw [hg])
  clear hw3 hg t1
  have HSS : Hid (∀ X, Below w3.heap.size w3 X → (X.cell? ⟨g, 0, none⟩ = some (.int .u32 (o : Int)) ∧ X.cell? ⟨g, 4, none⟩ = some (.int .u64 (ov : Int)) ∧ X.cell? ⟨g, 5, none⟩ = some (.bool ohad)) ∧ Below w3.heap.size w3 X) := Lib.hid (fun X hb => ⟨⟨(World.cell?_of_block (hb.block _ ((Array.getElem?_eq_some_iff.1 HX3.out).1))).trans (cellOf HX3.out 0 rfl), (World.cell?_of_block (hb.block _ ((Array.getElem?_eq_some_iff.1 HX3.out).1))).trans (cellOf HX3.out 4 rfl), (World.cell?_of_block (hb.block _ ((Array.getElem?_eq_some_iff.1 HX3.out).1))).trans (cellOf HX3.out 5 rfl)⟩, hb⟩)
  refine wp_region_held_drew (S := fun X => (X.cell? ⟨g, 0, none⟩ = some (.int .u32 (o : Int)) ∧ X.cell? ⟨g, 4, none⟩ = some (.int .u64 (ov : Int)) ∧ X.cell? ⟨g, 5, none⟩ = some (.bool ohad)) ∧ Below w3.heap.size w3 X) (by kernel_rfl) (HSS.out _ (Below.refl _ _).drew) (fun hHeld => ?_)
  have hbe : Below w3.heap.size w3 w3.drew := (Below.refl _ _).drew
  obtain ⟨wd, hwd⟩ : ∃ y, w3.drew = y := ⟨_, rfl⟩
  rw [hwd] at hHeld hbe ⊢
  have HBE := Lib.hid hbe
  have HS0 : Hid (w3.heap.size ≤ wd.heap.size) := Lib.hid HBE.out.size
  clear hwd hbe
  refine wpAnyH_take (i := 0) (v := ?_) rfl (by kernel_rfl) (by kernel_rfl) (by kernel_rfl) (fun _ _ _ h => h) (Or.inl ⟨by rfl, ?_⟩) (by assumption) ?_
  rotate_left
  ·(intro w hSw; (try dsimp only at hSw); simp only [List.getElem_toArray, List.getElem_cons_zero, List.getElem_cons_succ]; go_simp; first | done | with_reducible rfl)
  simp only [List.getElem_toArray, List.getElem_cons_zero, List.getElem_cons_succ, Act.put, List.setIfInBounds_toArray, List.set_cons_zero, List.set_cons_succ]
  refine wpAnyH_take (i := 2) (v := ?_) rfl (by kernel_rfl) (by kernel_rfl) (by kernel_rfl) (fun _ _ _ h => h) (Or.inl ⟨by rfl, ?_⟩) (by assumption) ?_
  rotate_left
  ·(intro w hSw; (try dsimp only at hSw); simp only [List.getElem_toArray, List.getElem_cons_zero, List.getElem_cons_succ]; go_simp; first | done | with_reducible rfl)
  simp only [List.getElem_toArray, List.getElem_cons_zero, List.getElem_cons_succ, Act.put, List.setIfInBounds_toArray, List.set_cons_zero, List.set_cons_succ]
  refine wpAnyH_take (i := 4) (v := ?_) rfl (by kernel_rfl) (by kernel_rfl) (by kernel_rfl) (fun _ _ _ h => h) (Or.inl ⟨by rfl, ?_⟩) (by assumption) ?_
  rotate_left
  ·(intro w hSw; (try dsimp only at hSw); simp only [List.getElem_toArray, List.getElem_cons_zero, List.getElem_cons_succ]; go_simp; first | done | with_reducible rfl)
  simp only [List.getElem_toArray, List.getElem_cons_zero, List.getElem_cons_succ, Act.put, List.setIfInBounds_toArray, List.set_cons_zero, List.set_cons_succ]
  refine wpAnyH_take (i := 1) (v := ?_) rfl (by kernel_rfl) (by kernel_rfl) (by kernel_rfl) (fun _ _ _ h => h) (Or.inl ⟨by rfl, ?_⟩) (by assumption) ?_
  rotate_left
  ·(intro w hSw; (try dsimp only at hSw); simp only [List.getElem_toArray, List.getElem_cons_zero, List.getElem_cons_succ]; go_simp; first | done | with_reducible rfl)
  simp only [List.getElem_toArray, List.getElem_cons_zero, List.getElem_cons_succ, Act.put, List.setIfInBounds_toArray, List.set_cons_zero, List.set_cons_succ]
  refine wpAnyH_take (i := 3) (v := ?_) rfl (by kernel_rfl) (by kernel_rfl) (by kernel_rfl) (fun _ _ _ h => h) (Or.inl ⟨by rfl, ?_⟩) (by assumption) ?_
  rotate_left
  ·(intro w hSw; (try dsimp only at hSw); simp only [List.getElem_toArray, List.getElem_cons_zero, List.getElem_cons_succ]; go_simp; first | done | with_reducible rfl)
  simp only [List.getElem_toArray, List.getElem_cons_zero, List.getElem_cons_succ, Act.put, List.setIfInBounds_toArray, List.set_cons_zero, List.set_cons_succ]
  refine wpAnyH_take (i := 5) (v := ?_) rfl (by kernel_rfl) (by kernel_rfl) (by kernel_rfl) (fun _ _ _ h => h) (Or.inl ⟨by rfl, ?_⟩) (by assumption) ?_
  rotate_left
  ·(intro w hSw; (try dsimp only at hSw); simp only [List.getElem_toArray, List.getElem_cons_zero, List.getElem_cons_succ]; go_simp; first | done | with_reducible rfl)
  simp only [List.getElem_toArray, List.getElem_cons_zero, List.getElem_cons_succ, Act.put, List.setIfInBounds_toArray, List.set_cons_zero, List.set_cons_succ]
  refine wpAnyH_take (i := 6) (v := ?_) rfl (by kernel_rfl) (by kernel_rfl) (by kernel_rfl) (fun _ _ _ h => h) (Or.inl ⟨by rfl, ?_⟩) (by assumption) ?_
  rotate_left
  ·(intro w hSw; (try dsimp only at hSw); simp only [List.getElem_toArray, List.getElem_cons_zero, List.getElem_cons_succ]; go_simp; first | done | with_reducible rfl)
  simp only [List.getElem_toArray, List.getElem_cons_zero, List.getElem_cons_succ, Act.put, List.setIfInBounds_toArray, List.set_cons_zero, List.set_cons_succ]
  refine wpAnyH_take (i := 7) (v := ?_) rfl (by kernel_rfl) (by kernel_rfl) (by kernel_rfl) (fun _ _ _ h => h) (Or.inl ⟨by rfl, ?_⟩) (by assumption) ?_
  rotate_left
  ·(intro w hSw; (try dsimp only at hSw); simp only [List.getElem_toArray, List.getElem_cons_zero, List.getElem_cons_succ]; go_simp; first | done | with_reducible rfl)
  simp only [List.getElem_toArray, List.getElem_cons_zero, List.getElem_cons_succ, Act.put, List.setIfInBounds_toArray, List.set_cons_zero, List.set_cons_succ]
  refine wpAnyH_take (i := 8) (v := ?_) rfl (by kernel_rfl) (by kernel_rfl) (by kernel_rfl) (fun _ _ _ h => h) (Or.inl ⟨by rfl, ?_⟩) (by assumption) ?_
  rotate_left
  ·(intro w hSw; (try dsimp only at hSw); simp only [List.getElem_toArray, List.getElem_cons_zero, List.getElem_cons_succ]; go_simp; first | done | with_reducible rfl)
  simp only [List.getElem_toArray, List.getElem_cons_zero, List.getElem_cons_succ, Act.put, List.setIfInBounds_toArray, List.set_cons_zero, List.set_cons_succ]
  refine wpAnyH_take (i := 9) (v := ?_) rfl (by kernel_rfl) (by kernel_rfl) (by kernel_rfl) (fun _ _ _ h => h) (Or.inl ⟨by rfl, ?_⟩) (by assumption) ?_
  rotate_left
  ·(intro w hSw; (try dsimp only at hSw); simp only [List.getElem_toArray, List.getElem_cons_zero, List.getElem_cons_succ]; go_simp; first | done | with_reducible rfl)
  simp only [List.getElem_toArray, List.getElem_cons_zero, List.getElem_cons_succ, Act.put, List.setIfInBounds_toArray, List.set_cons_zero, List.set_cons_succ]
  refine wpAnyH_done (by kernel_rfl) ?_ _
  have HEND := Lib.hid hHeld.2
  have HSE := Lib.hid hHeld.1
  clear hHeld
  clear HSS HSE HEND
  go_wp2_with fail
  refine bodyPost_ret (results_tmp4 rfl _ _ _) rfl ?_
  exact ⟨x2, rfl, HS3.out.below HBE.out, HM3.out.thenBelow HBE.out, HG2.out⟩
end Go.Proofs.YtgmahhdnjikdjaaGreat
/- The state of VolumeNil's store, step by step. -/
namespace Go.Proofs.YtgmahhdnjikdjaaGreat
open Go.RowKit Go.Maps Wire
set_option linter.unusedVariables false
set_option linter.unusedSimpArgs false
/-- A store, its fresh nodes, its disk. -/
structure VS (w0 w : World) (S B pm pd mf md : Nat) (s : Su) (A D : M) (Fm Fd : List Nat) (l : List (Nat × (NdV × Nd))) (ld : List (Nat × Bool)) (iv jv : Value) (d : Dk) : Prop where
 st : StF w S B pm pd mf md s A D Fm Fd l
 dk : DkF w0.heap.size w S B mf md Fm Fd l iv jv d
 im : IsM w md ld
 bel : Below w0.heap.size w0 w
 ge : ∀ k ∈ stF S mf md Fm Fd, w0.heap.size ≤ k
section
variable {w0 w w' : World} {S B pm pd mf md : Nat} {s : Su} {A D A' D' : M} {Fm Fd : List Nat} {l l' : List (Nat × (NdV × Nd))} {ld : List (Nat × Bool)} {iv jv : Value} {d : Dk}
theorem VS.sub (h : VS w0 w S B pm pd mf md s A D Fm Fd l ld iv jv d) : ∀ k ∈ mf :: (Fm ++ Fd), k ∈ stF S mf md Fm Fd ∧ k ≠ md := fun k hk => by
 rcases List.mem_cons.1 hk with e | hk
 ·subst e
  exact ⟨by simp [stF], h.st.mf_ne.1⟩
 ·rcases List.mem_append.1 hk with hk | hk
  ·exact ⟨by simp [stF, hk], fun e => ia_not h.st.st.ma h.im.isMap (by rw [← e]; exact hk)⟩
  ·exact ⟨by simp [stF, hk], fun e => ia_not h.st.st.da h.im.isMap (by rw [← e]; exact hk)⟩
theorem VS.step (h : VS w0 w S B pm pd mf md s A D Fm Fd l ld iv jv d) (hs : StF w' S B pm pd mf md s A' D' Fm Fd l') (hm : Mods (mf :: (Fm ++ Fd)) w w') (hl : ∀ p ∈ l', p ∈ l ∨ ∀ j ∈ obN p.2.1, w.heap.size ≤ j) : VS w0 w' S B pm pd mf md s A' D' Fm Fd l' ld iv jv d := by
 refine ⟨hs, ⟨h.dk.at_.same (fun k hk => hm.block k (h.dk.at_.inF k hk).2 (fun hh => h.dk.s1 k (h.sub k hh).1 hk)), h.dk.s1, fun p hp j hj => ?_⟩, h.im.mods hm (fun hh => (h.sub md hh).2 rfl), h.bel.trans (hm.below (fun k hk => h.ge k (h.sub k hk).1) h.bel.size), h.ge⟩
 rcases hl p hp with hp | hg
 ·exact h.dk.s2 p hp j hj
 ·intro hh
  have h1 := hg j hj
  have h2 := (h.dk.at_.inF j hh).2
  omega
theorem VS.below (h : VS w0 w S B pm pd mf md s A D Fm Fd l ld iv jv d) (hb : Below w.heap.size w w') : VS w0 w' S B pm pd mf md s A D Fm Fd l ld iv jv d :=
 h.step (h.st.below hb) (Mods.of_below hb) (fun p hp => .inl hp)
end
/-- Which nodes are there. -/
def Lg (l : List (Nat × (NdV × Nd))) (q : Nat) (g : List (Nat × Nd)) : Prop := l.length ≤ q ∧ ∀ p ∈ g, ∃ x, getA p.1 l = some (x, p.2)
theorem Lg.put {l : List (Nat × (NdV × Nd))} {q : Nat} {g g' : List (Nat × Nd)} (h : Lg l q g) (n : Nat) (x : NdV) (y : Nd) (hg : ∀ p ∈ g', p = (n, y) ∨ (p ∈ g ∧ p.1 ≠ n)) : Lg (putA n (x, y) l) (q + 1) g' := by
 refine ⟨by have h1 := putA_len n ((x, y) : NdV × Nd) l; have h2 := h.1; omega, fun p hp => ?_⟩
 rcases hg p hp with rfl | ⟨h1, h2⟩
 ·exact ⟨x, getA_put n _ l⟩
 ·obtain ⟨x', hx'⟩ := h.2 p h1
  exact ⟨x', by rw [getA_put_ne h2]; exact hx'⟩
/-- The store of the law, at a stage. -/
def VT (w0 w : World) (S B pm pd mf md : Nat) (s : Su) (Fm Fd : List Nat) (A D : M) (q : Nat) (g : List (Nat × Nd)) (j : Nat) : Prop :=
 ∃ l ld iv jv d, VS w0 w S B pm pd mf md s A D Fm Fd l ld iv jv d ∧ Lg l q g ∧ ld.length ≤ j ∧ d.left < 0 ∧ d.dead = false ∧ d.img.length = 1048 ∧ d.jr.length ≤ 4 * j
section
variable {w0 w w' : World} {S B pm pd mf md : Nat} {s : Su} {A D A' D' : M} {Fm Fd : List Nat} {q j : Nat} {g g' : List (Nat × Nd)}
theorem VT.below (h : VT w0 w S B pm pd mf md s Fm Fd A D q g j) (hb : Below w.heap.size w w') : VT w0 w' S B pm pd mf md s Fm Fd A D q g j := by
 obtain ⟨l, ld, iv, jv, d, h1, h2⟩ := h
 exact ⟨l, ld, iv, jv, d, h1.below hb, h2⟩
theorem VT.stB (h : VT w0 w S B pm pd mf md s Fm Fd A D q g j) : StB w S B pm pd mf md s A D Fm Fd false := by
 obtain ⟨l, ld, iv, jv, d, h1, h2⟩ := h
 exact h1.st.st
theorem VT.ge (h : VT w0 w S B pm pd mf md s Fm Fd A D q g j) : ∀ k ∈ stF S mf md Fm Fd, w0.heap.size ≤ k := by
 obtain ⟨l, ld, iv, jv, d, h1, h2⟩ := h
 exact h1.ge
theorem VT.lt (h : VT w0 w S B pm pd mf md s Fm Fd A D q g j) : ∀ k ∈ mf :: (Fm ++ Fd), k < w.heap.size := by
 obtain ⟨l, ld, iv, jv, d, h1, h2⟩ := h
 exact fun k hk => h1.st.lt k (h1.sub k hk).1
theorem VT.bel (h : VT w0 w S B pm pd mf md s Fm Fd A D q g j) : Below w0.heap.size w0 w := by
 obtain ⟨l, ld, iv, jv, d, h1, h2⟩ := h
 exact h1.bel
end
def v5 : Nat := 21474836488
def v6 : Nat := 25769803784
def y4a (s : Su) : Nd := ⟨3, s.tx + 1, [1], [8]⟩
def y4b (s : Su) : Nd := ⟨3, s.tx + 1, [1], [21474836488]⟩
def y4c (s : Su) : Nd := ⟨3, s.tx + 1, [1, 2], [21474836488, 21474836488]⟩
def y4d (s : Su) : Nd := ⟨3, s.tx + 1, [1, 2], [25769803784, 21474836488]⟩
def y5a (s : Su) : Nd := ⟨2, s.tx + 1, [3], [0]⟩
def y6a (s : Su) : Nd := ⟨2, s.tx + 1, [3], [1]⟩
theorem nd_ok2 (k : Int) (hk : 1 ≤ k ∧ k ≤ 3) (b : Nat) (u v : Nat) (hu : u < 18446744073709551616) (hv : v < 18446744073709551616) : Nd.Ok ⟨k, b, [1, 2], [u, v]⟩ := by
 refine ⟨hk, by show 2 ≤ 6; omega, rfl, fun i a c h1 h2 => ?_, fun x hx => ?_, fun x hx => ?_⟩
 ·match i, h1, h2 with
  | 0, h1, h2 => cases h1; cases h2; decide
  | 1, h1, h2 => cases h2
  | i + 2, h1, h2 => cases h1
 ·simp at hx; omega
 ·simp at hx; omega
theorem y4a_ok (s : Su) : (y4a s).Ok := ok_b (nd1_ok 3 (.inr rfl) 1 8 (by decide) (by decide)) (s.tx + 1)
theorem y4b_ok (s : Su) : (y4b s).Ok := ok_b (nd1_ok 3 (.inr rfl) 1 21474836488 (by decide) (by decide)) (s.tx + 1)
theorem y5a_ok (s : Su) : (y5a s).Ok := ok_b (nd1_ok 2 (.inl rfl) 3 0 (by decide) (by decide)) (s.tx + 1)
theorem y4c_ok (s : Su) : (y4c s).Ok := nd_ok2 3 (by decide) _ _ _ (by decide) (by decide)
theorem y4d_ok (s : Su) : (y4d s).Ok := nd_ok2 3 (by decide) _ _ _ (by decide) (by decide)
def A0 : M := ar9
def A1 : M := allocM A0 4
def A2 : M := allocM A1 5
def A3 : M := A2.put 5 2
def A4 : M := A3.put 5 3
def A5 : M := (allocM A4 6).put 5 2
def A6 : M := A5.put 5 1
def D0 : M := dr9
def D1 : M := allocM D0 0
def D2 : M := allocM D1 1
def D3 : M := D2.put 0 2
def D4 : M := D3.put 0 1
theorem fA0 : find A0 0 = some 4 := by decide +kernel
theorem fA1 : find A1 0 = some 5 := by decide +kernel
theorem fA4 : find A4 0 = some 6 := by decide +kernel
theorem fD0 : find D0 0 = some 0 := by decide +kernel
theorem fD1 : find D1 0 = some 1 := by decide +kernel
theorem lA : A0.now.length = 200 ∧ A1.now.length = 200 ∧ A2.now.length = 200 ∧ A3.now.length = 200 ∧ A4.now.length = 200 ∧ A5.now.length = 200 ∧ A6.now.length = 200 := by decide +kernel
theorem lD : D0.now.length = 60 ∧ D1.now.length = 60 ∧ D2.now.length = 60 ∧ D3.now.length = 60 ∧ D4.now.length = 60 := by decide +kernel
theorem c4 : ctN A1.now 4 = 1 ∧ ctN A2.now 4 = 1 ∧ ctN A3.now 4 = 1 ∧ ctN A4.now 4 = 1 ∧ ctN A5.now 4 = 1 ∧ ctN A6.now 4 = 1 := by decide +kernel
theorem c5 : ctN A2.now 5 = 1 ∧ ctN A3.now 5 = 2 ∧ ctN A4.now 5 = 3 ∧ ctN (allocM A4 6).now 5 = 3 ∧ ctN A5.now 5 = 2 ∧ ctN A6.now 5 = 1 := by decide +kernel
theorem lA6 : (allocM A4 6).now.length = A4.now.length := by decide +kernel
theorem cD : ctN D2.now 0 = 1 ∧ ctN D3.now 0 = 2 := by decide +kernel
section
variable {w0 w : World} {S B pm pd mf md : Nat} {s : Su} {A D : M} {Fm Fd : List Nat} {q j : Nat} {g : List (Nat × Nd)}
/-- A volume that is there, of a leaf. -/
theorem vt_get (h : VT w0 w S B pm pd mf md s Fm Fd A D q g j) (hl : A.now.length = 200) (n : Nat) (hn0 : n ≠ 0) (hn : n < 200) (hc : ctN A.now n ≠ 0) (y : Nd) (hy : y.Ok) (hk : y.k ≠ 1) (hg : (n, y) ∈ g) (k v : Nat) (h1 : y.keys[findI y.keys k]? = some k) (h2 : y.vals[findI y.keys k]? = some v) :
  Calls Tryz.prog 32 #[.pointer (some ⟨S, 0, none⟩), .int .u32 (n : Int), .int .u64 (k : Int)] w fun e w' => e = .returned (.tuple #[.int .u64 (v : Int), .bool true, .int .i64 0]) ∧ Below w.heap.size w w' := by
 obtain ⟨l, ld, iv, jv, d, hv, hL, _⟩ := h
 obtain ⟨x, hx⟩ := hL.2 _ hg
 refine (tget_leaf hv.st n hn0 (by rw [hl]; exact hn) hc x y hx hy hk k).mono fun e w' hp => ?_
 have he : y.at_ k = some v := by unfold Nd.at_; rw [if_pos h1]; exact h2
 unfold GetP at hp
 rw [he] at hp
 exact hp
theorem vt_getNo (h : VT w0 w S B pm pd mf md s Fm Fd A D q g j) (hl : A.now.length = 200) (n : Nat) (hn0 : n ≠ 0) (hn : n < 200) (hc : ctN A.now n ≠ 0) (y : Nd) (hy : y.Ok) (hk : y.k ≠ 1) (hg : (n, y) ∈ g) (k : Nat) (h1 : ¬ y.keys[findI y.keys k]? = some k) :
  Calls Tryz.prog 32 #[.pointer (some ⟨S, 0, none⟩), .int .u32 (n : Int), .int .u64 (k : Int)] w fun e w' => e = .returned (.tuple #[.int .u64 0, .bool false, .int .i64 0]) ∧ Below w.heap.size w w' := by
 obtain ⟨l, ld, iv, jv, d, hv, hL, _⟩ := h
 obtain ⟨x, hx⟩ := hL.2 _ hg
 refine (tget_leaf hv.st n hn0 (by rw [hl]; exact hn) hc x y hx hy hk k).mono fun e w' hp => ?_
 have he : y.at_ k = none := by unfold Nd.at_; rw [if_neg h1]
 unfold GetP at hp
 rw [he] at hp
 exact hp
/-- A new root. -/
theorem vt_new (h : VT w0 w S B pm pd mf md s Fm Fd A D q g j) (htx : s.tx + 1 < 18446744073709551616) (k key val : Nat) (hk : k = 2 ∨ k = 3) (hkey : key < 18446744073709551616) (hval : val < 18446744073709551616) (i : Nat) (hf : find A 0 = some i) (hq : q ≤ 10000) (g' : List (Nat × Nd)) (hg : ∀ p ∈ g', p = (i, (⟨(k : Int), s.tx + 1, [key], [val]⟩ : Nd)) ∨ (p ∈ g ∧ p.1 ≠ i)) :
  Calls Tryz.prog 33 #[.pointer (some ⟨S, 0, none⟩), .int .u32 0, .int .i64 (k : Int), .int .u64 (key : Int), .int .u64 (val : Int)] w fun e w' => e = .returned (.tuple #[.int .u32 (i : Int), .int .u64 0, .bool false, .int .i64 0]) ∧ VT w0 w' S B pm pd mf md s Fm Fd (allocM A i) D (q + 1) g' j ∧ Mods (mf :: (Fm ++ Fd)) w w' := by
 obtain ⟨l, ld, iv, jv, d, hv, hL, h2⟩ := h
 refine (tput_new hv.st k key val hk hkey hval i hf htx (Nat.le_trans hL.1 hq)).mono ?_
 rintro e w' ⟨x, he, hst, hm, hge⟩
 have hm2 : Mods (mf :: (Fm ++ Fd)) w w' := hm.mono (fun k hk => by rcases List.mem_cons.1 hk with h | h <;> simp [h])
 refine ⟨he, ⟨_, ld, iv, jv, d, hv.step hst hm2 (fun p hp => ?_), hL.put i x _ hg, h2⟩, hm2⟩
 rcases mem_putA hp with rfl | hp
 ·exact .inr hge
 ·exact .inl hp
/-- A key that a leaf has. -/
theorem vt_setv (h : VT w0 w S B pm pd mf md s Fm Fd A D q g j) (hl : A.now.length = 200) (n : Nat) (hn0 : n ≠ 0) (hn : n < 200) (hc : ctN A.now n = 1) (y : Nd) (hy : y.Ok) (kd : Int) (hkd : kd = 2 ∨ kd = 3) (hk : y.k = kd) (hg : (n, y) ∈ g) (hq : q ≤ 10000) (key val jj ov : Nat) (hkv : key < 18446744073709551616 ∧ val < 18446744073709551616) (hj : findI y.keys key = jj) (hf : y.keys[jj]? = some key) (hv : y.vals[jj]? = some ov) (yn : Nd) (hya : yn = y.setv jj val) (g' : List (Nat × Nd)) (hg' : ∀ p ∈ g', p = (n, yn) ∨ (p ∈ g ∧ p.1 ≠ n)) :
  Calls Tryz.prog 33 #[.pointer (some ⟨S, 0, none⟩), .int .u32 (n : Int), .int .i64 kd, .int .u64 (key : Int), .int .u64 (val : Int)] w fun e w' => e = .returned (.tuple #[.int .u32 (n : Int), .int .u64 (ov : Int), .bool true, .int .i64 0]) ∧ VT w0 w' S B pm pd mf md s Fm Fd A D (q + 1) g' j ∧ Mods (mf :: (Fm ++ Fd)) w w' := by
 obtain ⟨l, ld, iv, jv, d, hV, hL, h2⟩ := h
 obtain ⟨x, hx⟩ := hL.2 _ hg
 refine (tPut_by hV.st n hn0 (by rw [hl]; exact hn) kd hkd key val yn ov true (fun X hX => by
  have h9 := tput_leafF (hV.st.below hX) n hn0 (by rw [hl]; exact hn) hc x y hx hy (by rw [hk]; omega) (Nat.le_trans hL.1 hq) key val hkv jj hj hf ov hv yn hya true rfl
  rw [hk] at h9
  exact h9)).mono ?_
 rintro e w' ⟨x2, he, hst, hm, hge⟩
 have hm2 : Mods (mf :: (Fm ++ Fd)) w w' := hm.mono (fun k hk => by simp at hk; simp [hk])
 refine ⟨he, ⟨_, ld, iv, jv, d, hV.step hst hm2 (fun p hp => ?_), hL.put n x2 _ hg', h2⟩, hm2⟩
 rcases mem_putA hp with rfl | hp
 ·exact .inr hge
 ·exact .inl hp
/-- A key behind all of a leaf. -/
theorem vt_add (h : VT w0 w S B pm pd mf md s Fm Fd A D q g j) (hl : A.now.length = 200) (n : Nat) (hn0 : n ≠ 0) (hn : n < 200) (hc : ctN A.now n = 1) (y : Nd) (hy : y.Ok) (kd : Int) (hkd : kd = 2 ∨ kd = 3) (hk : y.k = kd) (hg : (n, y) ∈ g) (hq : q ≤ 10000) (key val : Nat) (hkv : key < 18446744073709551616 ∧ val < 18446744073709551616) (hlt : ∀ a ∈ y.keys, a < key) (h15 : 1 ≤ y.keys.length ∧ y.keys.length ≤ 5) (yn : Nd) (hya : yn = y.add key val) (g' : List (Nat × Nd)) (hg' : ∀ p ∈ g', p = (n, yn) ∨ (p ∈ g ∧ p.1 ≠ n)) :
  Calls Tryz.prog 33 #[.pointer (some ⟨S, 0, none⟩), .int .u32 (n : Int), .int .i64 kd, .int .u64 (key : Int), .int .u64 (val : Int)] w fun e w' => e = .returned (.tuple #[.int .u32 (n : Int), .int .u64 0, .bool false, .int .i64 0]) ∧ VT w0 w' S B pm pd mf md s Fm Fd A D (q + 1) g' j ∧ Mods (mf :: (Fm ++ Fd)) w w' := by
 obtain ⟨l, ld, iv, jv, d, hV, hL, h2⟩ := h
 obtain ⟨x, hx⟩ := hL.2 _ hg
 refine (tPut_by hV.st n hn0 (by rw [hl]; exact hn) kd hkd key val yn 0 false (fun X hX => by
  have h9 := tput_leafE (hV.st.below hX) n hn0 (by rw [hl]; exact hn) hc x y hx hy (by rw [hk]; omega) (Nat.le_trans hL.1 hq) key val hkv hlt h15 yn hya 0 false ⟨rfl, rfl⟩
  rw [hk] at h9
  exact h9)).mono ?_
 rintro e w' ⟨x2, he, hst, hm, hge⟩
 have hm2 : Mods (mf :: (Fm ++ Fd)) w w' := hm.mono (fun k hk => by simp at hk; simp [hk])
 refine ⟨he, ⟨_, ld, iv, jv, d, hV.step hst hm2 (fun p hp => ?_), hL.put n x2 _ hg', h2⟩, hm2⟩
 rcases mem_putA hp with rfl | hp
 ·exact .inr hge
 ·exact .inl hp
end
end Go.Proofs.YtgmahhdnjikdjaaGreat
