import Derived.Test.YtgmahhdnjikdjaaGreatVG25
set_option linter.unusedVariables false
set_option linter.unusedSimpArgs false
/- btree.Put into a tree that is a leaf, from put's contract, walked. -/
namespace Go.Proofs.YtgmahhdnjikdjaaGreat
open Go.RowKit Go.Maps Wire
set_option linter.unusedVariables false
set_option linter.unusedSimpArgs false
/-- What Put leaves. -/
def PutTP (w : World) (S B pm pd mf md : Nat) (s : Su) (A D : M) (Fm Fd : List Nat) (l : List (Nat × (NdV × Nd))) (i : Nat) (y : Nd) (ov : Nat) (had : Bool) (e : Ending) (w' : World) : Prop :=
 ∃ x, e = .returned (.tuple #[.int .u32 (i : Int), .int .u64 (ov : Int), .bool had, .int .i64 0]) ∧ StF w' S B pm pd mf md s A D Fm Fd (putA i (x, y) l) ∧ Mods [mf] w w' ∧ ∀ k ∈ obN x, w.heap.size ≤ k
theorem pair_built (a b : Int) : Tryz.prog.built 94 [(0, .int .u64 a), (1, .int .u64 b)] = some #[.int .u64 a, .int .u64 b] := by kernel_rfl
set_option maxRecDepth 100000 in
set_option maxHeartbeats 6400000 in
theorem tPut_by {w : World} {S B pm pd mf md : Nat} {s : Su} {A D : M} {Fm Fd : List Nat} {l : List (Nat × (NdV × Nd))} (h : StF w S B pm pd mf md s A D Fm Fd l) (i : Nat) (h0 : i ≠ 0) (hi9 : i < A.now.length) (kd : Int) (hkd : kd = 2 ∨ kd = 3) (key val : Nat) (yn : Nd) (ov : Nat) (ohad : Bool)
  (hp : ∀ X, Below w.heap.size w X → Calls Tryz.prog 78 #[.pointer (some ⟨S, 0, none⟩), .int .u32 (i : Int), .int .i64 kd, .agg #[.int .u64 (key : Int), .int .u64 (val : Int)], .int .i64 0] X (PutLP X S B pm pd mf md s A D Fm Fd l i yn ov ohad)) :
  Calls Tryz.prog 33 #[.pointer (some ⟨S, 0, none⟩), .int .u32 (i : Int), .int .i64 kd, .int .u64 (key : Int), .int .u64 (val : Int)] w (PutTP w S B pm pd mf md s A D Fm Fd l i yn ov ohad) := by
 have hm9 := h.st.mok.max
 have hi0 : ((i : Int) == 0) = false := by simp; omega
 have CM := tmay_in h.st i hi9
 have CP := Lib.hid hp
 clear h hp
 rcases hkd with rfl | rfl
 ·skip
  go_enter Tryz.func33, Tryz.ntmps33
  go_wp2_with fail
  refine CM.mono ?_
  rintro e w1 ⟨rfl, hb1⟩
  have HB1 := Lib.hid hb1
  have C := CP.out w1 hb1
  clear CM hb1
  go_upto_region 9 with fail
  apply wp_region_lit
  iterate 15 go_step
  refine wpL_build (by kernel_rfl) 94 _ rfl _ (by simp only [List.map_toArray, List.map_cons, List.map_nil]; rfl) _ (pair_built _ _) ?_
  dsimp only [Act.put]
  go_wp2_with fail
  refine C.mono ?_
  rintro e w2 ⟨x2, rfl, hst, hms, hge⟩
  have HS2 := Lib.hid hst
  have HM2 : Hid (Mods [mf] w w2) := Lib.hid ((Mods.of_below HB1.out).trans hms (fun k hk => .inl hk))
  have HG2 : Hid (∀ k ∈ obN x2, w.heap.size ≤ k) := Lib.hid (fun k hk => Nat.le_trans HB1.out.size (hge k hk))
  clear C hst hms hge
  dsimp only
  obtain ⟨fk, hfk⟩ : ∃ z, yn.keys.getD 0 0 = z := ⟨_, rfl⟩
  rw [hfk]
  clear hfk
  obtain ⟨w3, hw3⟩ : ∃ W, w2.alloc (.cells #[.int .u32 (i : Int), .int .u32 0, .int .u64 (fk : Int), .int .u64 0, .int .u64 (ov : Int), .bool ohad] 167) = W := ⟨_, rfl⟩
  have hb3 : Below w2.heap.size w2 w3 := by rw [← hw3]; exact balloc (Below.refl _ _) _
  have hx3 : w3.heap[w2.heap.size]? = some (.cells #[.int .u32 (i : Int), .int .u32 0, .int .u64 (fk : Int), .int .u64 0, .int .u64 (ov : Int), .bool ohad] 167 (0, 0)) := by rw [← hw3]; exact heap_alloc_new _ _
  have HX3 := Lib.hid hx3
  have HS3 := Lib.hid (HS2.out.below hb3)
  have HM3 := Lib.hid (HM2.out.thenBelow hb3)
  obtain ⟨g, hg⟩ : ∃ g, w2.heap.size = g := ⟨_, rfl⟩
  rw [hg] at HX3
  have t1 := cellOf HX3.out 1 (v := .int .u32 0) rfl
  clear hb3 hx3
  go_upto_region 14 with fail
  (try rw [hw3])
  (try rw [hg])
  clear hw3 hg t1
  have HSS : Hid (∀ X, Below w3.heap.size w3 X → (X.cell? ⟨g, 0, none⟩ = some (.int .u32 (i : Int)) ∧ X.cell? ⟨g, 4, none⟩ = some (.int .u64 (ov : Int)) ∧ X.cell? ⟨g, 5, none⟩ = some (.bool ohad)) ∧ Below w3.heap.size w3 X) := Lib.hid (fun X hb => ⟨⟨(World.cell?_of_block (hb.block _ ((Array.getElem?_eq_some_iff.1 HX3.out).1))).trans (cellOf HX3.out 0 rfl), (World.cell?_of_block (hb.block _ ((Array.getElem?_eq_some_iff.1 HX3.out).1))).trans (cellOf HX3.out 4 rfl), (World.cell?_of_block (hb.block _ ((Array.getElem?_eq_some_iff.1 HX3.out).1))).trans (cellOf HX3.out 5 rfl)⟩, hb⟩)
  refine wp_region_held_drew (S := fun X => (X.cell? ⟨g, 0, none⟩ = some (.int .u32 (i : Int)) ∧ X.cell? ⟨g, 4, none⟩ = some (.int .u64 (ov : Int)) ∧ X.cell? ⟨g, 5, none⟩ = some (.bool ohad)) ∧ Below w3.heap.size w3 X) (by kernel_rfl) (HSS.out _ (Below.refl _ _).drew) (fun hHeld => ?_)
  have hbe : Below w3.heap.size w3 w3.drew := (Below.refl _ _).drew
  obtain ⟨wd, hwd⟩ : ∃ y, w3.drew = y := ⟨_, rfl⟩
  rw [hwd] at hHeld hbe ⊢
  have HBE := Lib.hid hbe
  have HS0 : Hid (w3.heap.size ≤ wd.heap.size) := Lib.hid HBE.out.size
  clear hwd hbe
  refine wpAnyH_take (i := 0) (v := ?_) rfl (by kernel_rfl) (by kernel_rfl) (by kernel_rfl) (fun _ _ _ h => h) (Or.inl ⟨by rfl, ?_⟩) (by assumption) ?_
  rotate_left
  ·(intro w hSw; (try dsimp only at hSw); simp only [List.getElem_toArray, List.getElem_cons_zero, List.getElem_cons_succ]; go_simp; first | done | with_reducible rfl)
  simp only [List.getElem_toArray, List.getElem_cons_zero, List.getElem_cons_succ, Act.put, List.setIfInBounds_toArray, List.set_cons_zero, List.set_cons_succ]
  refine wpAnyH_take (i := 2) (v := ?_) rfl (by kernel_rfl) (by kernel_rfl) (by kernel_rfl) (fun _ _ _ h => h) (Or.inl ⟨by rfl, ?_⟩) (by assumption) ?_
  rotate_left
  ·(intro w hSw; (try dsimp only at hSw); simp only [List.getElem_toArray, List.getElem_cons_zero, List.getElem_cons_succ]; go_simp; first | done | with_reducible rfl)
  simp only [List.getElem_toArray, List.getElem_cons_zero, List.getElem_cons_succ, Act.put, List.setIfInBounds_toArray, List.set_cons_zero, List.set_cons_succ]
  refine wpAnyH_take (i := 4) (v := ?_) rfl (by kernel_rfl) (by kernel_rfl) (by kernel_rfl) (fun _ _ _ h => h) (Or.inl ⟨by rfl, ?_⟩) (by assumption) ?_
  rotate_left
  ·(intro w hSw; (try dsimp only at hSw); simp only [List.getElem_toArray, List.getElem_cons_zero, List.getElem_cons_succ]; go_simp; first | done | with_reducible rfl)
  simp only [List.getElem_toArray, List.getElem_cons_zero, List.getElem_cons_succ, Act.put, List.setIfInBounds_toArray, List.set_cons_zero, List.set_cons_succ]
  refine wpAnyH_take (i := 1) (v := ?_) rfl (by kernel_rfl) (by kernel_rfl) (by kernel_rfl) (fun _ _ _ h => h) (Or.inl ⟨by rfl, ?_⟩) (by assumption) ?_
  rotate_left
  ·(intro w hSw; (try dsimp only at hSw); simp only [List.getElem_toArray, List.getElem_cons_zero, List.getElem_cons_succ]; go_simp; first | done | with_reducible rfl)
  simp only [List.getElem_toArray, List.getElem_cons_zero, List.getElem_cons_succ, Act.put, List.setIfInBounds_toArray, List.set_cons_zero, List.set_cons_succ]
  refine wpAnyH_take (i := 3) (v := ?_) rfl (by kernel_rfl) (by kernel_rfl) (by kernel_rfl) (fun _ _ _ h => h) (Or.inl ⟨by rfl, ?_⟩) (by assumption) ?_
  rotate_left
  ·(intro w hSw; (try dsimp only at hSw); simp only [List.getElem_toArray, List.getElem_cons_zero, List.getElem_cons_succ]; go_simp; first | done | with_reducible rfl)
  simp only [List.getElem_toArray, List.getElem_cons_zero, List.getElem_cons_succ, Act.put, List.setIfInBounds_toArray, List.set_cons_zero, List.set_cons_succ]
  refine wpAnyH_take (i := 5) (v := ?_) rfl (by kernel_rfl) (by kernel_rfl) (by kernel_rfl) (fun _ _ _ h => h) (Or.inl ⟨by rfl, ?_⟩) (by assumption) ?_
  rotate_left
  ·(intro w hSw; (try dsimp only at hSw); simp only [List.getElem_toArray, List.getElem_cons_zero, List.getElem_cons_succ]; go_simp; first | done | with_reducible rfl)
  simp only [List.getElem_toArray, List.getElem_cons_zero, List.getElem_cons_succ, Act.put, List.setIfInBounds_toArray, List.set_cons_zero, List.set_cons_succ]
  refine wpAnyH_take (i := 6) (v := ?_) rfl (by kernel_rfl) (by kernel_rfl) (by kernel_rfl) (fun _ _ _ h => h) (Or.inl ⟨by rfl, ?_⟩) (by assumption) ?_
  rotate_left
  ·(intro w hSw; (try dsimp only at hSw); simp only [List.getElem_toArray, List.getElem_cons_zero, List.getElem_cons_succ]; go_simp; first | done | with_reducible rfl)
  simp only [List.getElem_toArray, List.getElem_cons_zero, List.getElem_cons_succ, Act.put, List.setIfInBounds_toArray, List.set_cons_zero, List.set_cons_succ]
  refine wpAnyH_take (i := 7) (v := ?_) rfl (by kernel_rfl) (by kernel_rfl) (by kernel_rfl) (fun _ _ _ h => h) (Or.inl ⟨by rfl, ?_⟩) (by assumption) ?_
  rotate_left
  ·(intro w hSw; (try dsimp only at hSw); simp only [List.getElem_toArray, List.getElem_cons_zero, List.getElem_cons_succ]; go_simp; first | done | with_reducible rfl)
  simp only [List.getElem_toArray, List.getElem_cons_zero, List.getElem_cons_succ, Act.put, List.setIfInBounds_toArray, List.set_cons_zero, List.set_cons_succ]
  refine wpAnyH_take (i := 8) (v := ?_) rfl (by kernel_rfl) (by kernel_rfl) (by kernel_rfl) (fun _ _ _ h => h) (Or.inl ⟨by rfl, ?_⟩) (by assumption) ?_
  rotate_left
  ·(intro w hSw; (try dsimp only at hSw); simp only [List.getElem_toArray, List.getElem_cons_zero, List.getElem_cons_succ]; go_simp; first | done | with_reducible rfl)
  simp only [List.getElem_toArray, List.getElem_cons_zero, List.getElem_cons_succ, Act.put, List.setIfInBounds_toArray, List.set_cons_zero, List.set_cons_succ]
  refine wpAnyH_take (i := 9) (v := ?_) rfl (by kernel_rfl) (by kernel_rfl) (by kernel_rfl) (fun _ _ _ h => h) (Or.inl ⟨by rfl, ?_⟩) (by assumption) ?_
  rotate_left
  ·(intro w hSw; (try dsimp only at hSw); simp only [List.getElem_toArray, List.getElem_cons_zero, List.getElem_cons_succ]; go_simp; first | done | with_reducible rfl)
  simp only [List.getElem_toArray, List.getElem_cons_zero, List.getElem_cons_succ, Act.put, List.setIfInBounds_toArray, List.set_cons_zero, List.set_cons_succ]
  refine wpAnyH_done (by kernel_rfl) ?_ _
  have HEND := Lib.hid hHeld.2
  have HSE := Lib.hid hHeld.1
  clear hHeld
  clear HSS HSE HEND
  go_wp2_with fail
  refine bodyPost_ret (results_tmp4 rfl _ _ _) rfl ?_
  exact ⟨x2, rfl, HS3.out.below HBE.out, HM3.out.thenBelow HBE.out, HG2.out⟩
 ·skip
  go_enter Tryz.func33, Tryz.ntmps33
  go_wp2_with fail
  refine CM.mono ?_
  rintro e w1 ⟨rfl, hb1⟩
  have HB1 := Lib.hid hb1
  have C := CP.out w1 hb1
  clear CM hb1
  go_upto_region 9 with fail
  apply wp_region_lit
  iterate 15 go_step
  refine wpL_build (by kernel_rfl) 94 _ rfl _ (by simp only [List.map_toArray, List.map_cons, List.map_nil]; rfl) _ (pair_built _ _) ?_
  dsimp only [Act.put]
  go_wp2_with fail
  refine C.mono ?_
  rintro e w2 ⟨x2, rfl, hst, hms, hge⟩
  have HS2 := Lib.hid hst
  have HM2 : Hid (Mods [mf] w w2) := Lib.hid ((Mods.of_below HB1.out).trans hms (fun k hk => .inl hk))
  have HG2 : Hid (∀ k ∈ obN x2, w.heap.size ≤ k) := Lib.hid (fun k hk => Nat.le_trans HB1.out.size (hge k hk))
  clear C hst hms hge
  dsimp only
  obtain ⟨fk, hfk⟩ : ∃ z, yn.keys.getD 0 0 = z := ⟨_, rfl⟩
  rw [hfk]
  clear hfk
  obtain ⟨w3, hw3⟩ : ∃ W, w2.alloc (.cells #[.int .u32 (i : Int), .int .u32 0, .int .u64 (fk : Int), .int .u64 0, .int .u64 (ov : Int), .bool ohad] 167) = W := ⟨_, rfl⟩
  have hb3 : Below w2.heap.size w2 w3 := by rw [← hw3]; exact balloc (Below.refl _ _) _
  have hx3 : w3.heap[w2.heap.size]? = some (.cells #[.int .u32 (i : Int), .int .u32 0, .int .u64 (fk : Int), .int .u64 0, .int .u64 (ov : Int), .bool ohad] 167 (0, 0)) := by rw [← hw3]; exact heap_alloc_new _ _
  have HX3 := Lib.hid hx3
  have HS3 := Lib.hid (HS2.out.below hb3)
  have HM3 := Lib.hid (HM2.out.thenBelow hb3)
  obtain ⟨g, hg⟩ : ∃ g, w2.heap.size = g := ⟨_, rfl⟩
  rw [hg] at HX3
  have t1 := cellOf HX3.out 1 (v := .int .u32 0) rfl
  clear hb3 hx3
  go_upto_region 14 with fail
  (try rw [hw3])
  (try rw [hg])
  clear hw3 hg t1
  have HSS : Hid (∀ X, Below w3.heap.size w3 X → (X.cell? ⟨g, 0, none⟩ = some (.int .u32 (i : Int)) ∧ X.cell? ⟨g, 4, none⟩ = some (.int .u64 (ov : Int)) ∧ X.cell? ⟨g, 5, none⟩ = some (.bool ohad)) ∧ Below w3.heap.size w3 X) := Lib.hid (fun X hb => ⟨⟨(World.cell?_of_block (hb.block _ ((Array.getElem?_eq_some_iff.1 HX3.out).1))).trans (cellOf HX3.out 0 rfl), (World.cell?_of_block (hb.block _ ((Array.getElem?_eq_some_iff.1 HX3.out).1))).trans (cellOf HX3.out 4 rfl), (World.cell?_of_block (hb.block _ ((Array.getElem?_eq_some_iff.1 HX3.out).1))).trans (cellOf HX3.out 5 rfl)⟩, hb⟩)
  refine wp_region_held_drew (S := fun X => (X.cell? ⟨g, 0, none⟩ = some (.int .u32 (i : Int)) ∧ X.cell? ⟨g, 4, none⟩ = some (.int .u64 (ov : Int)) ∧ X.cell? ⟨g, 5, none⟩ = some (.bool ohad)) ∧ Below w3.heap.size w3 X) (by kernel_rfl) (HSS.out _ (Below.refl _ _).drew) (fun hHeld => ?_)
  have hbe : Below w3.heap.size w3 w3.drew := (Below.refl _ _).drew
  obtain ⟨wd, hwd⟩ : ∃ y, w3.drew = y := ⟨_, rfl⟩
  rw [hwd] at hHeld hbe ⊢
  have HBE := Lib.hid hbe
  have HS0 : Hid (w3.heap.size ≤ wd.heap.size) := Lib.hid HBE.out.size
  clear hwd hbe
  refine wpAnyH_take (i := 0) (v := ?_) rfl (by kernel_rfl) (by kernel_rfl) (by kernel_rfl) (fun _ _ _ h => h) (Or.inl ⟨by rfl, ?_⟩) (by assumption) ?_
  rotate_left
  ·(intro w hSw; (try dsimp only at hSw); simp only [List.getElem_toArray, List.getElem_cons_zero, List.getElem_cons_succ]; go_simp; first | done | with_reducible rfl)
  simp only [List.getElem_toArray, List.getElem_cons_zero, List.getElem_cons_succ, Act.put, List.setIfInBounds_toArray, List.set_cons_zero, List.set_cons_succ]
  refine wpAnyH_take (i := 2) (v := ?_) rfl (by kernel_rfl) (by kernel_rfl) (by kernel_rfl) (fun _ _ _ h => h) (Or.inl ⟨by rfl, ?_⟩) (by assumption) ?_
  rotate_left
  ·(intro w hSw; (try dsimp only at hSw); simp only [List.getElem_toArray, List.getElem_cons_zero, List.getElem_cons_succ]; go_simp; first | done | with_reducible rfl)
  simp only [List.getElem_toArray, List.getElem_cons_zero, List.getElem_cons_succ, Act.put, List.setIfInBounds_toArray, List.set_cons_zero, List.set_cons_succ]
  refine wpAnyH_take (i := 4) (v := ?_) rfl (by kernel_rfl) (by kernel_rfl) (by kernel_rfl) (fun _ _ _ h => h) (Or.inl ⟨by rfl, ?_⟩) (by assumption) ?_
  rotate_left
  ·(intro w hSw; (try dsimp only at hSw); simp only [List.getElem_toArray, List.getElem_cons_zero, List.getElem_cons_succ]; go_simp; first | done | with_reducible rfl)
  simp only [List.getElem_toArray, List.getElem_cons_zero, List.getElem_cons_succ, Act.put, List.setIfInBounds_toArray, List.set_cons_zero, List.set_cons_succ]
  refine wpAnyH_take (i := 1) (v := ?_) rfl (by kernel_rfl) (by kernel_rfl) (by kernel_rfl) (fun _ _ _ h => h) (Or.inl ⟨by rfl, ?_⟩) (by assumption) ?_
  rotate_left
  ·(intro w hSw; (try dsimp only at hSw); simp only [List.getElem_toArray, List.getElem_cons_zero, List.getElem_cons_succ]; go_simp; first | done | with_reducible rfl)
  simp only [List.getElem_toArray, List.getElem_cons_zero, List.getElem_cons_succ, Act.put, List.setIfInBounds_toArray, List.set_cons_zero, List.set_cons_succ]
  refine wpAnyH_take (i := 3) (v := ?_) rfl (by kernel_rfl) (by kernel_rfl) (by kernel_rfl) (fun _ _ _ h => h) (Or.inl ⟨by rfl, ?_⟩) (by assumption) ?_
  rotate_left
  ·(intro w hSw; (try dsimp only at hSw); simp only [List.getElem_toArray, List.getElem_cons_zero, List.getElem_cons_succ]; go_simp; first | done | with_reducible rfl)
  simp only [List.getElem_toArray, List.getElem_cons_zero, List.getElem_cons_succ, Act.put, List.setIfInBounds_toArray, List.set_cons_zero, List.set_cons_succ]
  refine wpAnyH_take (i := 5) (v := ?_) rfl (by kernel_rfl) (by kernel_rfl) (by kernel_rfl) (fun _ _ _ h => h) (Or.inl ⟨by rfl, ?_⟩) (by assumption) ?_
  rotate_left
  ·(intro w hSw; (try dsimp only at hSw); simp only [List.getElem_toArray, List.getElem_cons_zero, List.getElem_cons_succ]; go_simp; first | done | with_reducible rfl)
  simp only [List.getElem_toArray, List.getElem_cons_zero, List.getElem_cons_succ, Act.put, List.setIfInBounds_toArray, List.set_cons_zero, List.set_cons_succ]
  refine wpAnyH_take (i := 6) (v := ?_) rfl (by kernel_rfl) (by kernel_rfl) (by kernel_rfl) (fun _ _ _ h => h) (Or.inl ⟨by rfl, ?_⟩) (by assumption) ?_
  rotate_left
  ·(intro w hSw; (try dsimp only at hSw); simp only [List.getElem_toArray, List.getElem_cons_zero, List.getElem_cons_succ]; go_simp; first | done | with_reducible rfl)
  simp only [List.getElem_toArray, List.getElem_cons_zero, List.getElem_cons_succ, Act.put, List.setIfInBounds_toArray, List.set_cons_zero, List.set_cons_succ]
  refine wpAnyH_take (i := 7) (v := ?_) rfl (by kernel_rfl) (by kernel_rfl) (by kernel_rfl) (fun _ _ _ h => h) (Or.inl ⟨by rfl, ?_⟩) (by assumption) ?_
  rotate_left
  ·(intro w hSw; (try dsimp only at hSw); simp only [List.getElem_toArray, List.getElem_cons_zero, List.getElem_cons_succ]; go_simp; first | done | with_reducible rfl)
  simp only [List.getElem_toArray, List.getElem_cons_zero, List.getElem_cons_succ, Act.put, List.setIfInBounds_toArray, List.set_cons_zero, List.set_cons_succ]
  refine wpAnyH_take (i := 8) (v := ?_) rfl (by kernel_rfl) (by kernel_rfl) (by kernel_rfl) (fun _ _ _ h => h) (Or.inl ⟨by rfl, ?_⟩) (by assumption) ?_
  rotate_left
  ·(intro w hSw; (try dsimp only at hSw); simp only [List.getElem_toArray, List.getElem_cons_zero, List.getElem_cons_succ]; go_simp; first | done | with_reducible rfl)
  simp only [List.getElem_toArray, List.getElem_cons_zero, List.getElem_cons_succ, Act.put, List.setIfInBounds_toArray, List.set_cons_zero, List.set_cons_succ]
  refine wpAnyH_take (i := 9) (v := ?_) rfl (by kernel_rfl) (by kernel_rfl) (by kernel_rfl) (fun _ _ _ h => h) (Or.inl ⟨by rfl, ?_⟩) (by assumption) ?_
  rotate_left
  ·(intro w hSw; (try dsimp only at hSw); simp only [List.getElem_toArray, List.getElem_cons_zero, List.getElem_cons_succ]; go_simp; first | done | with_reducible rfl)
  simp only [List.getElem_toArray, List.getElem_cons_zero, List.getElem_cons_succ, Act.put, List.setIfInBounds_toArray, List.set_cons_zero, List.set_cons_succ]
  refine wpAnyH_done (by kernel_rfl) ?_ _
  have HEND := Lib.hid hHeld.2
  have HSE := Lib.hid hHeld.1
  clear hHeld
  clear HSS HSE HEND
  go_wp2_with fail
  refine bodyPost_ret (results_tmp4 rfl _ _ _) rfl ?_
  exact ⟨x2, rfl, HS3.out.below HBE.out, HM3.out.thenBelow HBE.out, HG2.out⟩
end Go.Proofs.YtgmahhdnjikdjaaGreat
