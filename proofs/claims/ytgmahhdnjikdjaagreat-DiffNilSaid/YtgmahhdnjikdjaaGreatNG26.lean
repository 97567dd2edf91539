import Derived.Test.YtgmahhdnjikdjaaGreatNG25
import Derived.Test.YtgmahhdnjikdjaaGreatNG24
import Derived.Test.YtgmahhdnjikdjaaGreatNG16
set_option linter.unusedVariables false
set_option linter.unusedSimpArgs false
/- btree.Put into a tree that is a leaf, from put's contract, walked. -/
namespace Go.Proofs.YtgmahhdnjikdjaaGreat
open Go.RowKit Go.Maps Wire
set_option linter.unusedVariables false
set_option linter.unusedSimpArgs false
/-- What Put leaves. -/
def PutTP (w : World) (S B pm pd mf md : Nat) (s : Su) (A D : M) (Fm Fd : List Nat) (l : List (Nat × (NdV × Nd))) (i : Nat) (y : Nd) (ov : Nat) (had : Bool) (e : Ending) (w' : World) : Prop :=
 ∃ x, e = .returned (.tuple #[.int .u32 (i : Int), .int .u64 (ov : Int), .bool had, .int .i64 0]) ∧ StF w' S B pm pd mf md s A D Fm Fd (putA i (x, y) l) ∧ Mods [mf] w w' ∧ ∀ k ∈ obN x, w.heap.size ≤ k
theorem pair_built (a b : Int) : Tryz.prog.built 94 [(0, .int .u64 a), (1, .int .u64 b)] = some #[.int .u64 a, .int .u64 b] := by kernel_rfl
set_option maxRecDepth 100000 in
set_option maxHeartbeats 6400000 in
theorem tPut_by {w : World} {S B pm pd mf md : Nat} {s : Su} {A D : M} {Fm Fd : List Nat} {l : List (Nat × (NdV × Nd))} (h : StF w S B pm pd mf md s A D Fm Fd l) (i : Nat) (h0 : i ≠ 0) (hi9 : i < A.now.length) (kd : Int) (hkd : kd = 2 ∨ kd = 3) (key val : Nat) (yn : Nd) (ov : Nat) (ohad : Bool)
  (hp : ∀ X, Below w.heap.size w X → Calls Tryz.prog 78 #[.pointer (some ⟨S, 0, none⟩), .int .u32 (i : Int), .int .i64 kd, .agg #[.int .u64 (key : Int), .int .u64 (val : Int)], .int .i64 0] X (PutLP X S B pm pd mf md s A D Fm Fd l i yn ov ohad)) :
  Calls Tryz.prog 33 #[.pointer (some ⟨S, 0, none⟩), .int .u32 (i : Int), .int .i64 kd, .int .u64 (key : Int), .int .u64 (val : Int)] w (PutTP w S B pm pd mf md s A D Fm Fd l i yn ov ohad) := by
 have hm9 := h.st.mok.max
 have hi0 : ((i : Int) == 0) = false := by simp; omega
 have CM := tmay_in h.st i hi9
 have CP := Lib.hid hp
 clear h hp
 rcases hkd with rfl | rfl
 ·skip
  go_enter Tryz.func33, Tryz.ntmps33
  go_wp2_with fail
  refine CM.mono ?_
  rintro e w1 ⟨rfl, hb1⟩
  have HB1 := Lib.hid hb1
  have C := CP.out w1 hb1
  clear CM hb1
  go_upto_region 9 with fail
  apply wp_region_lit
  iterate 15 go_step
  refine wpL_build (by kernel_rfl) 94 _ rfl _ (by simp only [List.map_toArray, List.map_cons, List.map_nil]; rfl) _ (pair_built _ _) ?_
  dsimp only [Act.put]
  go_wp2_with fail
  refine C.mono ?_
  rintro e w2 ⟨x2, rfl, hst, hms, hge⟩
  have HS2 := Lib.hid hst
  have HM2 : Hid (Mods [mf] w w2) := Lib.hid ((Mods.of_below HB1.out).trans hms (fun k hk => .inl hk))
  have HG2 : Hid (∀ k ∈ obN x2, w.heap.size ≤ k) := Lib.hid (fun k hk => Nat.le_trans HB1.out.size (hge k hk))
  clear C hst hms hge
  dsimp only
  obtain ⟨fk, hfk⟩ : ∃ z, yn.keys.getD 0 0 = z := ⟨_, rfl⟩
  rw [hfk]
  clear hfk
  obtain ⟨w3, hw3⟩ : ∃ W, w2.alloc (.cells #[.int .u32 (i : Int), .int .u32 0, .int .u64 (fk : Int), .int .u64 0, .int .u64 (ov : Int), .bool ohad] 167) = W := ⟨_, rfl⟩
  have hb3 : Below w2.heap.size w2 w3 := by rw [← hw3]; exact balloc (Below.refl _ _) _
  have hx3 : w3.heap[w2.heap.size]? = some (.cells #[.int .u32 (i : Int), .int .u32 0, .int .u64 (fk : Int), .int .u64 0, .int .u64 (ov : Int), .bool ohad] 167 (0, 0)) := by rw [← hw3]; exact heap_alloc_new _ _
  have HX3 := Lib.hid hx3
  have HS3 := Lib.hid (HS2.out.below hb3)
  have HM3 := Lib.hid (HM2.out.thenBelow hb3)
  obtain ⟨g, hg⟩ : ∃ g, w2.heap.size = g := ⟨_, rfl⟩
  rw [hg] at HX3
  have t1 := cellOf HX3.out 1 (v := .int .u32 0) rfl
  clear hb3 hx3
  go_upto_region 14 with fail
  (try rw [hw3])
  (try rw [hg])
  clear hw3 hg t1
  have HSS : Hid (∀ X, Below w3.heap.size w3 X → (X.cell? ⟨g, 0, none⟩ = some (.int .u32 (i : Int)) ∧ X.cell? ⟨g, 4, none⟩ = some (.int .u64 (ov : Int)) ∧ X.cell? ⟨g, 5, none⟩ = some (.bool ohad)) ∧ Below w3.heap.size w3 X) := Lib.hid (fun X hb => ⟨⟨(World.cell?_of_block (hb.block _ ((Array.getElem?_eq_some_iff.1 HX3.out).1))).trans (cellOf HX3.out 0 rfl), (World.cell?_of_block (hb.block _ ((Array.getElem?_eq_some_iff.1 HX3.out).1))).trans (cellOf HX3.out 4 rfl), (World.cell?_of_block (hb.block _ ((Array.getElem?_eq_some_iff.1 HX3.out).1))).trans (cellOf HX3.out 5 rfl)⟩, hb⟩)
  refine wp_region_held_drew (S := fun X => (X.cell? ⟨g, 0, none⟩ = some (.int .u32 (i : Int)) ∧ X.cell? ⟨g, 4, none⟩ = some (.int .u64 (ov : Int)) ∧ X.cell? ⟨g, 5, none⟩ = some (.bool ohad)) ∧ Below w3.heap.size w3 X) (by kernel_rfl) (HSS.out _ (Below.refl _ _).drew) (fun hHeld => ?_)
  have hbe : Below w3.heap.size w3 w3.drew := (Below.refl _ _).drew
  obtain ⟨wd, hwd⟩ : ∃ y, w3.drew = y := ⟨_, rfl⟩
  rw [hwd] at hHeld hbe ⊢
  have HBE := Lib.hid hbe
  have HS0 : Hid (w3.heap.size ≤ wd.heap.size) := Lib.hid HBE.out.size
  clear hwd hbe
  refine wpAnyH_take (i := 0) (v := ?_) rfl (by kernel_rfl) (by kernel_rfl) (by kernel_rfl) (fun _ _ _ h => h) (Or.inl ⟨by rfl, ?_⟩) (by assumption) ?_
  rotate_left
  ·(intro w hSw; (try dsimp only at hSw); simp only [List.getElem_toArray, List.getElem_cons_zero, List.getElem_cons_succ]; go_simp; first | done | with_reducible rfl)
  simp only [List.getElem_toArray, List.getElem_cons_zero, List.getElem_cons_succ, Act.put, List.setIfInBounds_toArray, List.set_cons_zero, List.set_cons_succ]
  refine wpAnyH_take (i := 2) (v := ?_) rfl (by kernel_rfl) (by kernel_rfl) (by kernel_rfl) (fun _ _ _ h => h) (Or.inl ⟨by rfl, ?_⟩) (by assumption) ?_
  rotate_left
  ·(intro w hSw; (try dsimp only at hSw); simp only [List.getElem_toArray, List.getElem_cons_zero, List.getElem_cons_succ]; go_simp; first | done | with_reducible rfl)
  simp only [List.getElem_toArray, List.getElem_cons_zero, List.getElem_cons_succ, Act.put, List.setIfInBounds_toArray, List.set_cons_zero, List.set_cons_succ]
  refine wpAnyH_take (i := 4) (v := ?_) rfl (by kernel_rfl) (by kernel_rfl) (by kernel_rfl) (fun _ _ _ h => h) (Or.inl ⟨by rfl, ?_⟩) (by assumption) ?_
  rotate_left
  ·(intro w hSw; (try dsimp only at hSw); simp only [List.getElem_toArray, List.getElem_cons_zero, List.getElem_cons_succ]; go_simp; first | done | with_reducible rfl)
  simp only [List.getElem_toArray, List.getElem_cons_zero, List.getElem_cons_succ, Act.put, List.setIfInBounds_toArray, List.set_cons_zero, List.set_cons_succ]
  refine wpAnyH_take (i := 1) (v := ?_) rfl (by kernel_rfl) (by kernel_rfl) (by kernel_rfl) (fun _ _ _ h => h) (Or.inl ⟨by rfl, ?_⟩) (by assumption) ?_
  rotate_left
  ·(intro w hSw; (try dsimp only at hSw); simp only [List.getElem_toArray, List.getElem_cons_zero, List.getElem_cons_succ]; go_simp; first | done | with_reducible rfl)
  simp only [List.getElem_toArray, List.getElem_cons_zero, List.getElem_cons_succ, Act.put, List.setIfInBounds_toArray, List.set_cons_zero, List.set_cons_succ]
  refine wpAnyH_take (i := 3) (v := ?_) rfl (by kernel_rfl) (by kernel_rfl) (by kernel_rfl) (fun _ _ _ h => h) (Or.inl ⟨by rfl, ?_⟩) (by assumption) ?_
  rotate_left
  ·(intro w hSw; (try dsimp only at hSw); simp only [List.getElem_toArray, List.getElem_cons_zero, List.getElem_cons_succ]; go_simp; first | done | with_reducible rfl)
  simp only [List.getElem_toArray, List.getElem_cons_zero, List.getElem_cons_succ, Act.put, List.setIfInBounds_toArray, List.set_cons_zero, List.set_cons_succ]
  refine wpAnyH_take (i := 5) (v := ?_) rfl (by kernel_rfl) (by kernel_rfl) (by kernel_rfl) (fun _ _ _ h => h) (Or.inl ⟨by rfl, ?_⟩) (by assumption) ?_
  rotate_left
  ·(intro w hSw; (try dsimp only at hSw); simp only [List.getElem_toArray, List.getElem_cons_zero, List.getElem_cons_succ]; go_simp; first | done | with_reducible rfl)
  simp only [List.getElem_toArray, List.getElem_cons_zero, List.getElem_cons_succ, Act.put, List.setIfInBounds_toArray, List.set_cons_zero, List.set_cons_succ]
  refine wpAnyH_take (i := 6) (v := ?_) rfl (by kernel_rfl) (by kernel_rfl) (by kernel_rfl) (fun _ _ _ h => h) (Or.inl ⟨by rfl, ?_⟩) (by assumption) ?_
  rotate_left
  ·(intro w hSw; (try dsimp only at hSw); simp only [List.getElem_toArray, List.getElem_cons_zero, List.getElem_cons_succ]; go_simp; first | done | with_reducible rfl)
  simp only [List.getElem_toArray, List.getElem_cons_zero, List.getElem_cons_succ, Act.put, List.setIfInBounds_toArray, List.set_cons_zero, List.set_cons_succ]
  refine wpAnyH_take (i := 7) (v := ?_) rfl (by kernel_rfl) (by kernel_rfl) (by kernel_rfl) (fun _ _ _ h => h) (Or.inl ⟨by rfl, ?_⟩) (by assumption) ?_
  rotate_left
  ·(intro w hSw; (try dsimp only at hSw); simp only [List.getElem_toArray, List.getElem_cons_zero, List.getElem_cons_succ]; go_simp; first | done | with_reducible rfl)
  simp only [List.getElem_toArray, List.getElem_cons_zero, List.getElem_cons_succ, Act.put, List.setIfInBounds_toArray, List.set_cons_zero, List.set_cons_succ]
  refine wpAnyH_take (i := 8) (v := ?_) rfl (by kernel_rfl) (by kernel_rfl) (by kernel_rfl) (fun _ _ _ h => h) (Or.inl ⟨by rfl, ?_⟩) (by assumption) ?_
  rotate_left
  ·(intro w hSw; (try dsimp only at hSw); simp only [List.getElem_toArray, List.getElem_cons_zero, List.getElem_cons_succ]; go_simp; first | done | with_reducible rfl)
  simp only [List.getElem_toArray, List.getElem_cons_zero, List.getElem_cons_succ, Act.put, List.setIfInBounds_toArray, List.set_cons_zero, List.set_cons_succ]
  refine wpAnyH_take (i := 9) (v := ?_) rfl (by kernel_rfl) (by kernel_rfl) (by kernel_rfl) (fun _ _ _ h => h) (Or.inl ⟨by rfl, ?_⟩) (by assumption) ?_
  rotate_left
  ·(intro w hSw; (try dsimp only at hSw); simp only [List.getElem_toArray, List.getElem_cons_zero, List.getElem_cons_succ]; go_simp; first | done | with_reducible rfl)
  simp only [List.getElem_toArray, List.getElem_cons_zero, List.getElem_cons_succ, Act.put, List.setIfInBounds_toArray, List.set_cons_zero, List.set_cons_succ]
  refine wpAnyH_done (by kernel_rfl) ?_ _
  have HEND := Lib.hid hHeld.2
  have HSE := Lib.hid hHeld.1
  clear hHeld
  clear HSS HSE HEND
  go_wp2_with fail
  refine bodyPost_ret (results_tmp4 rfl _ _ _) rfl ?_
  exact ⟨x2, rfl, HS3.out.below HBE.out, HM3.out.thenBelow HBE.out, HG2.out⟩
 ·skip
  go_enter Tryz.func33, Tryz.ntmps33
  go_wp2_with fail
  refine CM.mono ?_
  rintro e w1 ⟨rfl, hb1⟩
  have HB1 := Lib.hid hb1
  have C := CP.out w1 hb1
  clear CM hb1
  go_upto_region 9 with fail
  apply wp_region_lit
  iterate 15 go_step
  refine wpL_build (by kernel_rfl) 94 _ rfl _ (by simp only [List.map_toArray, List.map_cons, List.map_nil]; rfl) _ (pair_built _ _) ?_
  dsimp only [Act.put]
  go_wp2_with fail
  refine C.mono ?_
  rintro e w2 ⟨x2, rfl, hst, hms, hge⟩
  have HS2 := Lib.hid hst
  have HM2 : Hid (Mods [mf] w w2) := Lib.hid ((Mods.of_below HB1.out).trans hms (fun k hk => .inl hk))
  have HG2 : Hid (∀ k ∈ obN x2, w.heap.size ≤ k) := Lib.hid (fun k hk => Nat.le_trans HB1.out.size (hge k hk))
  clear C hst hms hge
  dsimp only
  obtain ⟨fk, hfk⟩ : ∃ z, yn.keys.getD 0 0 = z := ⟨_, rfl⟩
  rw [hfk]
  clear hfk
  obtain ⟨w3, hw3⟩ : ∃ W, w2.alloc (.cells #[.int .u32 (i : Int), .int .u32 0, .int .u64 (fk : Int), .int .u64 0, .int .u64 (ov : Int), .bool ohad] 167) = W := ⟨_, rfl⟩
  have hb3 : Below w2.heap.size w2 w3 := by rw [← hw3]; exact balloc (Below.refl _ _) _
  have hx3 : w3.heap[w2.heap.size]? = some (.cells #[.int .u32 (i : Int), .int .u32 0, .int .u64 (fk : Int), .int .u64 0, .int .u64 (ov : Int), .bool ohad] 167 (0, 0)) := by rw [← hw3]; exact heap_alloc_new _ _
  have HX3 := Lib.hid hx3
  have HS3 := Lib.hid (HS2.out.below hb3)
  have HM3 := Lib.hid (HM2.out.thenBelow hb3)
  obtain ⟨g, hg⟩ : ∃ g, w2.heap.size = g := ⟨_, rfl⟩
  rw [hg] at HX3
  have t1 := cellOf HX3.out 1 (v := .int .u32 0) rfl
  clear hb3 hx3
  go_upto_region 14 with fail
  (try rw [hw3])
  (try rw [hg])
  clear hw3 hg t1
  have HSS : Hid (∀ X, Below w3.heap.size w3 X → (X.cell? ⟨g, 0, none⟩ = some (.int .u32 (i : Int)) ∧ X.cell? ⟨g, 4, none⟩ = some (.int .u64 (ov : Int)) ∧ X.cell? ⟨g, 5, none⟩ = some (.bool ohad)) ∧ Below w3.heap.size w3 X) := Lib.hid (fun X hb => ⟨⟨(World.cell?_of_block (hb.block _ ((Array.getElem?_eq_some_iff.1 HX3.out).1))).trans (cellOf HX3.out 0 rfl), (World.cell?_of_block (hb.block _ ((Array.getElem?_eq_some_iff.1 HX3.out).1))).trans (cellOf HX3.out 4 rfl), (World.cell?_of_block (hb.block _ ((Array.getElem?_eq_some_iff.1 HX3.out).1))).trans (cellOf HX3.out 5 rfl)⟩, hb⟩)
  refine wp_region_held_drew (S := fun X => (X.cell? ⟨g, 0, none⟩ = some (.int .u32 (i : Int)) ∧ X.cell? ⟨g, 4, none⟩ = some (.int .u64 (ov : Int)) ∧ X.cell? ⟨g, 5, none⟩ = some (.bool ohad)) ∧ Below w3.heap.size w3 X) (by kernel_rfl) (HSS.out _ (Below.refl _ _).drew) (fun hHeld => ?_)
  have hbe : Below w3.heap.size w3 w3.drew := (Below.refl _ _).drew
  obtain ⟨wd, hwd⟩ : ∃ y, w3.drew = y := ⟨_, rfl⟩
  rw [hwd] at hHeld hbe ⊢
  have HBE := Lib.hid hbe
  have HS0 : Hid (w3.heap.size ≤ wd.heap.size) := Lib.hid HBE.out.size
  clear hwd hbe
  refine wpAnyH_take (i := 0) (v := ?_) rfl (by kernel_rfl) (by kernel_rfl) (by kernel_rfl) (fun _ _ _ h => h) (Or.inl ⟨by rfl, ?_⟩) (by assumption) ?_
  rotate_left
  ·(intro w hSw; (try dsimp only at hSw); simp only [List.getElem_toArray, List.getElem_cons_zero, List.getElem_cons_succ]; go_simp; first | done | with_reducible rfl)
  simp only [List.getElem_toArray, List.getElem_cons_zero, List.getElem_cons_succ, Act.put, List.setIfInBounds_toArray, List.set_cons_zero, List.set_cons_succ]
  refine wpAnyH_take (i := 2) (v := ?_) rfl (by kernel_rfl) (by kernel_rfl) (by kernel_rfl) (fun _ _ _ h => h) (Or.inl ⟨by rfl, ?_⟩) (by assumption) ?_
  rotate_left
  ·(intro w hSw; (try dsimp only at hSw); simp only [List.getElem_toArray, List.getElem_cons_zero, List.getElem_cons_succ]; go_simp; first | done | with_reducible rfl)
  simp only [List.getElem_toArray, List.getElem_cons_zero, List.getElem_cons_succ, Act.put, List.setIfInBounds_toArray, List.set_cons_zero, List.set_cons_succ]
  refine wpAnyH_take (i := 4) (v := ?_) rfl (by kernel_rfl) (by kernel_rfl) (by kernel_rfl) (fun _ _ _ h => h) (Or.inl ⟨by rfl, ?_⟩) (by assumption) ?_
  rotate_left
  ·(intro w hSw; (try dsimp only at hSw); simp only [List.getElem_toArray, List.getElem_cons_zero, List.getElem_cons_succ]; go_simp; first | done | with_reducible rfl)
  simp only [List.getElem_toArray, List.getElem_cons_zero, List.getElem_cons_succ, Act.put, List.setIfInBounds_toArray, List.set_cons_zero, List.set_cons_succ]
  refine wpAnyH_take (i := 1) (v := ?_) rfl (by kernel_rfl) (by kernel_rfl) (by kernel_rfl) (fun _ _ _ h => h) (Or.inl ⟨by rfl, ?_⟩) (by assumption) ?_
  rotate_left
  ·(intro w hSw; (try dsimp only at hSw); simp only [List.getElem_toArray, List.getElem_cons_zero, List.getElem_cons_succ]; go_simp; first | done | with_reducible rfl)
  simp only [List.getElem_toArray, List.getElem_cons_zero, List.getElem_cons_succ, Act.put, List.setIfInBounds_toArray, List.set_cons_zero, List.set_cons_succ]
  refine wpAnyH_take (i := 3) (v := ?_) rfl (by kernel_rfl) (by kernel_rfl) (by kernel_rfl) (fun _ _ _ h => h) (Or.inl ⟨by rfl, ?_⟩) (by assumption) ?_
  rotate_left
  ·(intro w hSw; (try dsimp only at hSw); simp only [List.getElem_toArray, List.getElem_cons_zero, List.getElem_cons_succ]; go_simp; first | done | with_reducible rfl)
  simp only [List.getElem_toArray, List.getElem_cons_zero, List.getElem_cons_succ, Act.put, List.setIfInBounds_toArray, List.set_cons_zero, List.set_cons_succ]
  refine wpAnyH_take (i := 5) (v := ?_) rfl (by kernel_rfl) (by kernel_rfl) (by kernel_rfl) (fun _ _ _ h => h) (Or.inl ⟨by rfl, ?_⟩) (by assumption) ?_
  rotate_left
  ·(intro w hSw; (try dsimp only at hSw); simp only [List.getElem_toArray, List.getElem_cons_zero, List.getElem_cons_succ]; go_simp; first | done | with_reducible rfl)
  simp only [List.getElem_toArray, List.getElem_cons_zero, List.getElem_cons_succ, Act.put, List.setIfInBounds_toArray, List.set_cons_zero, List.set_cons_succ]
  refine wpAnyH_take (i := 6) (v := ?_) rfl (by kernel_rfl) (by kernel_rfl) (by kernel_rfl) (fun _ _ _ h => h) (Or.inl ⟨by rfl, ?_⟩) (by assumption) ?_
  rotate_left
  ·(intro w hSw; (try dsimp only at hSw); simp only [List.getElem_toArray, List.getElem_cons_zero, List.getElem_cons_succ]; go_simp; first | done | with_reducible rfl)
  simp only [List.getElem_toArray, List.getElem_cons_zero, List.getElem_cons_succ, Act.put, List.setIfInBounds_toArray, List.set_cons_zero, List.set_cons_succ]
  refine wpAnyH_take (i := 7) (v := ?_) rfl (by kernel_rfl) (by kernel_rfl) (by kernel_rfl) (fun _ _ _ h => h) (Or.inl ⟨by rfl, ?_⟩) (by assumption) ?_
  rotate_left
  ·(intro w hSw; (try dsimp only at hSw); simp only [List.getElem_toArray, List.getElem_cons_zero, List.getElem_cons_succ]; go_simp; first | done | with_reducible rfl)
  simp only [List.getElem_toArray, List.getElem_cons_zero, List.getElem_cons_succ, Act.put, List.setIfInBounds_toArray, List.set_cons_zero, List.set_cons_succ]
  refine wpAnyH_take (i := 8) (v := ?_) rfl (by kernel_rfl) (by kernel_rfl) (by kernel_rfl) (fun _ _ _ h => h) (Or.inl ⟨by rfl, ?_⟩) (by assumption) ?_
  rotate_left
  ·(intro w hSw; (try dsimp only at hSw); simp only [List.getElem_toArray, List.getElem_cons_zero, List.getElem_cons_succ]; go_simp; first | done | with_reducible rfl)
  simp only [List.getElem_toArray, List.getElem_cons_zero, List.getElem_cons_succ, Act.put, List.setIfInBounds_toArray, List.set_cons_zero, List.set_cons_succ]
  refine wpAnyH_take (i := 9) (v := ?_) rfl (by kernel_rfl) (by kernel_rfl) (by kernel_rfl) (fun _ _ _ h => h) (Or.inl ⟨by rfl, ?_⟩) (by assumption) ?_
  rotate_left
  ·(intro w hSw; (try dsimp only at hSw); simp only [List.getElem_toArray, List.getElem_cons_zero, List.getElem_cons_succ]; go_simp; first | done | with_reducible rfl)
  simp only [List.getElem_toArray, List.getElem_cons_zero, List.getElem_cons_succ, Act.put, List.setIfInBounds_toArray, List.set_cons_zero, List.set_cons_succ]
  refine wpAnyH_done (by kernel_rfl) ?_ _
  have HEND := Lib.hid hHeld.2
  have HSE := Lib.hid hHeld.1
  clear hHeld
  clear HSS HSE HEND
  go_wp2_with fail
  refine bodyPost_ret (results_tmp4 rfl _ _ _) rfl ?_
  exact ⟨x2, rfl, HS3.out.below HBE.out, HM3.out.thenBelow HBE.out, HG2.out⟩
end Go.Proofs.YtgmahhdnjikdjaaGreat
/- btree.Delete of a leaf that has just that key, walked. -/
namespace Go.Proofs.YtgmahhdnjikdjaaGreat
open Go.RowKit Go.Maps Wire
set_option linter.unusedVariables false
set_option linter.unusedSimpArgs false
theorem find_insA {α : Type} (k : Nat) (a : α) : ∀ l : List (Nat × α), (∀ y ∈ l, y.1 ≠ k) → (insA (k, a) l).find? (fun p => p.1 == k) = some (k, a)
 | [], _ => by simp [insA]
 | y :: l, h => by
  unfold insA
  split
  ·simp
  ·rw [List.find?_cons_of_neg (by simpa using h y (List.mem_cons_self ..))]
   exact find_insA k a l (fun z hz => h z (List.mem_cons_of_mem _ hz))
theorem getA_put {α : Type} (k : Nat) (a : α) (l : List (Nat × α)) : getA k (putA k a l) = some a := by
 unfold getA putA
 rw [find_insA k a _ delA_ne]
 rfl
theorem filter_insA {α : Type} (k : Nat) (a : α) : ∀ l : List (Nat × α), (insA (k, a) l).filter (fun p => !(p.1 == k)) = l.filter (fun p => !(p.1 == k))
 | [] => by simp [insA]
 | y :: l => by
  unfold insA
  split
  ·simp
  ·rw [List.filter_cons, List.filter_cons, filter_insA k a l]
theorem delA_put {α : Type} (k : Nat) (a : α) (l : List (Nat × α)) : delA k (putA k a l) = delA k l := by
 unfold putA
 show (insA (k, a) (delA k l)).filter (fun p => !(p.1 == k)) = delA k l
 rw [filter_insA]
 show (l.filter _).filter _ = l.filter _
 rw [List.filter_filter]
 congr 1
 funext p
 simp
theorem getA_put_ne {α : Type} {j k : Nat} (h : j ≠ k) (a : α) (l : List (Nat × α)) : getA j (putA k a l) = getA j l := by
 have h1 : ∀ l : List (Nat × α), (insA (k, a) l).find? (fun p => p.1 == j) = l.find? (fun p => p.1 == j) := by
  intro l
  induction l with
  | nil => simp [insA]; omega
  | cons y l ih =>
   unfold insA
   split
   ·rw [List.find?_cons_of_neg (by simp; omega)]
   ·rw [List.find?_cons, List.find?_cons, ih]
 have h2 : (delA k l).find? (fun p => p.1 == j) = l.find? (fun p => p.1 == j) := by
  unfold delA
  rw [List.find?_filter]
  congr 1
  funext p
  by_cases hp : p.1 = j
  ·simp [hp, h]
  ·simp [hp]
 unfold getA putA
 rw [h1, h2]
/-- What Delete leaves. -/
def Del1P (w : World) (S B pm pd mf md : Nat) (s : Su) (A D : M) (Fm Fd : List Nat) (l : List (Nat × (NdV × Nd))) (i v : Nat) (e : Ending) (w' : World) : Prop :=
 e = .returned (.tuple #[.int .u32 0, .int .u64 (v : Int), .bool true, .int .i64 0]) ∧ StF w' S B pm pd mf md s { A with now := A.now.set i 0 } D Fm Fd (delA i l) ∧ Mods (mf :: Fm) w w'
end Go.Proofs.YtgmahhdnjikdjaaGreat
/- The law's build: a tree of keys put one behind the other, walked. -/
namespace Go.Proofs.YtgmahhdnjikdjaaGreat
open Go.RowKit Go.Maps Wire
set_option linter.unusedVariables false
set_option linter.unusedSimpArgs false
theorem putA_put {α : Type} (k : Nat) (a b : α) (l : List (Nat × α)) : putA k a (putA k b l) = putA k a l := by
 unfold putA
 rw [show delA k (insA (k, b) (delA k l)) = delA k l from delA_put k b l]
theorem ct_al {A : M} {i : Nat} (h : i < A.now.length) : ctN (allocM A i).now i = 1 := by
 unfold ctN allocM
 simp [List.getD, h]
/-- Acts that put, as cells. -/
def acV (l : List (Nat × Nat)) : List Value := l.flatMap fun p => [.int .i64 1, .int .u64 (p.1 : Int), .int .u64 (p.2 : Int)]
theorem acV_get : ∀ (l : List (Nat × Nat)) (j : Nat) (p : Nat × Nat), l[j]? = some p → (acV l)[j * 3]? = some (.int .i64 1) ∧ (acV l)[j * 3 + 1]? = some (.int .u64 (p.1 : Int)) ∧ (acV l)[j * 3 + 2]? = some (.int .u64 (p.2 : Int))
 | [], j, p, h => by simp at h
 | q :: l, 0, p, h => by
  obtain rfl : q = p := by simpa using h
  exact ⟨rfl, rfl, rfl⟩
 | q :: l, j + 1, p, h => by
  have h1 := acV_get l j p (by simpa using h)
  rw [show acV (q :: l) = .int .i64 1 :: .int .u64 (q.1 : Int) :: .int .u64 (q.2 : Int) :: acV l from rfl, show (j + 1) * 3 = j * 3 + 1 + 1 + 1 by omega]
  exact h1
theorem rd_act {w : World} {ao : Option Addr} {n c : Nat} {l : List (Nat × Nat)} (h : Rd w 3 (.slice ao n c) n (acV l)) (h0 : 0 < l.length) : ∃ b off, ao = some ⟨b, off, none⟩ ∧ b < w.heap.size ∧ ∀ (j : Nat) (p : Nat × Nat), l[j]? = some p → w.cell? ⟨b, off + j * 3, none⟩ = some (.int .i64 1) ∧ w.cell? ⟨b, off + j * 3 + 1, none⟩ = some (.int .u64 (p.1 : Int)) ∧ w.cell? ⟨b, off + j * 3 + 2, none⟩ = some (.int .u64 (p.2 : Int)) := by
 obtain ⟨ao', c', he, _, _, _, hc⟩ := h
 obtain ⟨rfl, _, _⟩ := Value.slice.inj he
 obtain ⟨p0, hp0⟩ : ∃ p, l[0]? = some p := ⟨_, List.getElem?_eq_getElem h0⟩
 obtain ⟨b, off, ha, hb, _⟩ := hc 0 _ (by simpa using (acV_get l 0 p0 hp0).1)
 refine ⟨b, off, ha, hb, fun j p hj => ?_⟩
 have hg := acV_get l j p hj
 obtain ⟨b1, o1, e1, _, h1⟩ := hc _ _ hg.1
 obtain ⟨b2, o2, e2, _, h2⟩ := hc _ _ hg.2.1
 obtain ⟨b3, o3, e3, _, h3⟩ := hc _ _ hg.2.2
 rw [ha] at e1 e2 e3
 obtain ⟨rfl, rfl⟩ : b = b1 ∧ off = o1 := by cases e1; exact ⟨rfl, rfl⟩
 obtain ⟨rfl, rfl⟩ : b = b2 ∧ off = o2 := by cases e2; exact ⟨rfl, rfl⟩
 obtain ⟨rfl, rfl⟩ : b = b3 ∧ off = o3 := by cases e3; exact ⟨rfl, rfl⟩
 exact ⟨h1, by rw [Nat.add_assoc]; exact h2, by rw [Nat.add_assoc]; exact h3⟩
/-- A leaf of pairs. -/
def lf (t : Nat) (l : List (Nat × Nat)) : Nd := ⟨3, t + 1, l.map (·.1), l.map (·.2)⟩
/-- Pairs whose keys rise, of numbers that fit. -/
structure Upp (l : List (Nat × Nat)) : Prop where
 up : ∀ (i j : Nat) (p q : Nat × Nat), i < j → l[i]? = some p → l[j]? = some q → p.1 < q.1
 kv : ∀ p ∈ l, p.1 < 18446744073709551616 ∧ p.2 < 4294967296
theorem Upp.take {l : List (Nat × Nat)} (h : Upp l) (i : Nat) : Upp (l.take i) := by
 refine ⟨fun a b p q hab ha hb => ?_, fun p hp => h.kv p (List.mem_of_mem_take hp)⟩
 rw [List.getElem?_take] at ha hb
 split at ha <;> split at hb
 ·exact h.up a b p q hab ha hb
 all_goals simp_all
theorem lf_ok {t : Nat} {l : List (Nat × Nat)} (h : Upp l) (h6 : l.length ≤ 6) : (lf t l).Ok := by
 refine ⟨by show (1 : Int) ≤ 3 ∧ (3 : Int) ≤ 3; omega, by show (l.map _).length ≤ 6; simpa using h6, by show (l.map _).length = (l.map _).length; simp, fun i a b ha hb => ?_, fun x hx => ?_, fun x hx => ?_⟩
 ·have ha : (l.map (·.1))[i]? = some a := ha
  have hb : (l.map (·.1))[i + 1]? = some b := hb
  rw [List.getElem?_map, Option.map_eq_some_iff] at ha hb
  obtain ⟨p, hp, rfl⟩ := ha
  obtain ⟨q, hq, rfl⟩ := hb
  exact h.up i (i + 1) p q (by omega) hp hq
 ·have hx : x ∈ l.map (·.1) := hx
  obtain ⟨p, hp, rfl⟩ := List.mem_map.1 hx
  exact (h.kv p hp).1
 ·have hx : x ∈ l.map (·.2) := hx
  obtain ⟨p, hp, rfl⟩ := List.mem_map.1 hx
  have := (h.kv p hp).2
  omega
theorem lf_add (t : Nat) (l : List (Nat × Nat)) (p : Nat × Nat) : lf t (l ++ [p]) = (lf t l).add p.1 p.2 := by
 unfold lf Nd.add
 simp
/-- In the midst of build. -/
def BldS (w : World) (S B pm pd mf md : Nat) (s : Su) (A D : M) (Fm Fd : List Nat) (l0 : List (Nat × (NdV × Nd))) (n0 : Nat) (acts : List (Nat × Nat)) (i : Nat) (rt vl : Value) (wr : World) : Prop :=
 Mods (mf :: Fm) w wr ∧ wr.ownsRow w.heap.size 94 2 vl i (pV (acts.take i)) ∧ ((i = 0 ∧ rt = .int .u32 0 ∧ wr = w) ∨ (1 ≤ i ∧ rt = .int .u32 (n0 : Int) ∧ ∃ x, StF wr S B pm pd mf md s (allocM A n0) D Fm Fd (putA n0 (x, lf s.tx (acts.take i)) l0)))
/-- What build leaves. -/
def BuildP (w : World) (S B pm pd mf md : Nat) (s : Su) (A D : M) (Fm Fd : List Nat) (l0 : List (Nat × (NdV × Nd))) (n0 : Nat) (acts : List (Nat × Nat)) (e : Ending) (w' : World) : Prop := ∃ x vl, e = .returned (.tuple #[.int .u32 (n0 : Int), vl, .bool true]) ∧ StF w' S B pm pd mf md s (allocM A n0) D Fm Fd (putA n0 (x, lf s.tx acts) l0) ∧ Mods (mf :: Fm) w w'
set_option maxRecDepth 100000 in
set_option maxHeartbeats 12800000 in
theorem dbuild_at {w : World} {S B pm pd mf md : Nat} {s : Su} {A D : M} {Fm Fd : List Nat} {l0 : List (Nat × (NdV × Nd))} (h : StF w S B pm pd mf md s A D Fm Fd l0) (n0 : Nat) (hf : find A 0 = some n0) (h0 : n0 ≠ 0) (htx : s.tx + 1 < 18446744073709551616) (hlen : l0.length ≤ 9000) (va : Value) (acts : List (Nat × Nat)) (hm : 1 ≤ acts.length ∧ acts.length ≤ 6) (hu : Upp acts) (hva : ∀ X, Mods (mf :: Fm) w X → Rd X 3 va acts.length (acV acts)) :
  Calls Tryz.prog 56 #[.pointer (some ⟨S, 0, none⟩), .int .u32 0, .slice none 0 0, va] w (BuildP w S B pm pd mf md s A D Fm Fd l0 n0 acts) := by
 have hn9 : n0 < A.now.length := find_lt h.st.mok.pos _ _ _ hf
 obtain ⟨m, hmm⟩ : ∃ m, acts.length = m := ⟨_, rfl⟩
 obtain ⟨aa, ca, rfl, _⟩ := id (hva w (Mods.refl _ _))
 have HH := Lib.hid h
 have HVA := Lib.hid hva
 have HF := Lib.hid (And.intro hf (And.intro h0 (And.intro htx (And.intro hlen hn9))))
 have HU := Lib.hid hu
 have HGL : Hid (∀ k ∈ mf :: Fm, k < w.heap.size) := Lib.hid (fun k hk => by
  rcases List.mem_cons.1 hk with rfl | hk
  ·exact h.lt _ (by simp [stF])
  ·exact h.lt _ (by simp [stF, hk]))
 have HMM : Hid (acts.length = m ∧ 1 ≤ m ∧ m ≤ 6) := Lib.hid (by omega)
 rw [hmm] at HVA ⊢
 clear h hf h0 htx hlen hm hu hva hn9 hmm
 go_enter Tryz.func56, Tryz.ntmps56
 go_wp2_with fail
 go_loopw [11, 1, 2] (fun v rt vl wr => ∃ i : Nat, i ≤ m ∧ v = .int .i64 (i : Int) ∧ BldS w S B pm pd mf md s A D Fm Fd l0 n0 acts i rt vl wr) (fun v _ _ _ => m - (Go.RowKit.intOf v).toNat)
 case atStart => exact ⟨0, by omega, rfl, Mods.refl _ _, World.ownsRow_nil w w.heap.size 94 2, .inl ⟨rfl, rfl, rfl⟩⟩
 case round =>
  obtain ⟨i, hi, rfl, hmo, hrl, hd⟩ := hrel
  have HMO := Lib.hid hmo
  have HRL0 := Lib.hid hrl
  have HD := Lib.hid hd
  clear hmo hrl hd
  by_cases hlt : i < m
  ·obtain ⟨p, hp⟩ : ∃ p, acts[i]? = some p := ⟨_, List.getElem?_eq_getElem (by have := HMM.out; omega)⟩
   have hkv := HU.out.kv p (List.mem_of_getElem? hp)
   have HLT2 : Hid (∀ q ∈ acts.take i, q.1 < p.1) := Lib.hid (fun q hq => by
    obtain ⟨j, hj⟩ := List.getElem?_of_mem hq
    rw [List.getElem?_take] at hj
    split at hj
    ·rename_i hji
     exact HU.out.up j i q p hji hj hp
    ·cases hj)
   obtain ⟨b, off, rfl, hbl, hc⟩ := rd_act (HVA.out wr HMO.out) (by have := HMM.out; omega)
   obtain ⟨g0, g1, g2⟩ := hc i p hp
   have HP := Lib.hid hp
   obtain ⟨key, val⟩ := p
   have HKV := Lib.hid hkv
   have hlt' : (i : Int) < (m : Int) := by omega
   obtain ⟨w4, hw4⟩ : ∃ W, wr.alloc (.cells #[.int .i64 1, .int .u64 (key : Int), .int .u64 (val : Int)] 119) = W := ⟨_, rfl⟩
   have hb4 : Below wr.heap.size wr w4 := by rw [← hw4]; exact balloc (Below.refl _ _) _
   have hx4 : w4.heap[wr.heap.size]? = some (.cells #[.int .i64 1, .int .u64 (key : Int), .int .u64 (val : Int)] 119 (0, 0)) := by rw [← hw4]; exact heap_alloc_new _ _
   have HX4 := Lib.hid hx4
   have HB4 := Lib.hid hb4
   have HQN : Hid (wr.heap.size ∉ mf :: Fm) := Lib.hid (fun hh => by
    have h1 := HH.out.lt wr.heap.size (by
     rcases List.mem_cons.1 hh with e | hh
     ·rw [e]; simp [stF]
     ·simp [stF, hh])
    have := HMO.out.size
    omega)
   clear hp hbl hc hkv hb4 hx4
   dsimp only at g0 g1 g2
   go_upto_region 5 with fail
   (try rw [hw4])
   clear hw4 g0 g1 g2
   have b0 := cellOf HX4.out 0 (v := .int .i64 1) rfl
   have b1 := cellOf HX4.out 1 (v := .int .u64 (key : Int)) rfl
   have b2 := cellOf HX4.out 2 (v := .int .u64 (val : Int)) rfl
   have hr1 : Int.tmod (val : Int) 4294967296 = (val : Int) := Int.tmod_eq_of_lt (by omega) (by have := HKV.out.2; omega)
   have hr2 : IntKind.u64.wrap (val : Int) = (val : Int) := IntWalk.u64_in _ ⟨by omega, by have := HKV.out.2; omega⟩
   go_upto_region 8 with fail
   have HRL : Hid (∀ X, Mods (mf :: Fm) w4 X → Rd X 2 _ i (pV (acts.take i))) := Lib.hid (fun X hX => Rd.of_own (ownsRow_at (ownsRow_below HRL0.out HB4.out) (fun k hk => hX.block k (ownsRow_lt (ownsRow_below HRL0.out HB4.out) k hk) (fun hh => by
    have h1 := ownsRow_ge HRL0.out k hk
    have h2 := HGL.out k hh
    omega))))
   have hi6 : i ≤ 5 := by have := HMM.out; omega
   rcases HD.out with ⟨hi0, hrt, hw⟩ | ⟨hi1, hrt, x, hst⟩
   ·subst hrt
    have HI0 := Lib.hid hi0
    have HS4 : Hid (StF w4 S B pm pd mf md s A D Fm Fd l0) := Lib.hid (by have h9 := HH.out; rw [← hw] at h9; exact h9.below HB4.out)
    have CP := tput_new HS4.out 3 key val (.inr rfl) HKV.out.1 (by have := HKV.out.2; omega) n0 HF.out.1 HF.out.2.2.1 (by have := HF.out.2.2.2.1; omega)
    clear hi0 hw
    go_wp2_with fail
    refine CP.mono ?_
    rintro e w5 ⟨x5, rfl, hst, hms, hgx⟩
    have HS5 := Lib.hid hst
    have HM5 : Hid (Mods (mf :: Fm) w4 w5) := Lib.hid (by first | exact hms | exact hms.mono (fun k hk => by rw [List.mem_singleton.1 hk]; exact List.mem_cons_self ..))
    have HX5 := Lib.hid ((HM5.out.block _ (Array.getElem?_eq_some_iff.1 HX4.out).1 HQN.out).trans HX4.out)
    clear CP hst hms hgx b0 b1 b2 hr1 hr2
    dsimp only
    have b1 := cellOf HX5.out 1 (v := .int .u64 (key : Int)) rfl
    have CL := lput_end w5 _ i _ (HRL.out w5 HM5.out) (by have := HMM.out; omega) key val HLT2.out
    go_upto_region 12 with fail
    apply wp_region_lit
    iterate 12 go_step
    refine wpL_build (by kernel_rfl) 94 _ rfl _ (by simp only [List.map_toArray, List.map_cons, List.map_nil]; rfl) _ (pr_built _ _) ?_
    dsimp only [Act.put]
    go_wp2_with fail
    refine CL.mono ?_
    rintro e w6 ⟨vl6, rfl, hr6, hb6⟩
    have HR6 := Lib.hid hr6
    have HB6 := Lib.hid hb6
    clear CL hr6 hb6 b1
    dsimp only
    go_wp2_with fail
    have HMF6 : Hid (Mods (mf :: Fm) w w6) := Lib.hid (((HMO.out.thenBelow HB4.out).trans HM5.out (fun k hk => .inl hk)).thenBelow HB6.out)
    have HTK : Hid (acts.take (i + 1) = acts.take i ++ [(key, val)]) := Lib.hid (by rw [List.take_add_one, HP.out]; rfl)
    have HRN : Hid (w6.ownsRow w.heap.size 94 2 vl6 (i + 1) (pV (acts.take (i + 1)))) := Lib.hid (by rw [HTK.out]; exact ownsRow_base HR6.out (Nat.le_trans HMO.out.size (Nat.le_trans HB4.out.size HM5.out.size)))
    go_roundw
    case rel =>
     refine ⟨i + 1, by omega, by go_num, HMF6.out, HRN.out, .inr ⟨by omega, rfl, x5, ?_⟩⟩
     have h9 := HS5.out.below HB6.out
     rw [HTK.out, HI0.out]
     exact h9
    case measure => simp [Go.RowKit.intOf]; omega
   ·subst hrt
    have HI1 := Lib.hid hi1
    have hl1 : (acts.take i).length = i := by rw [List.length_take]; have := HMM.out; omega
    have HY : Hid ((lf s.tx (acts.take i)).Ok ∧ (lf s.tx (acts.take i)).keys.length = i) := Lib.hid ⟨lf_ok (HU.out.take i) (by omega), by show ((acts.take i).map (·.1)).length = i; simpa using hl1⟩
    have h4 := hst.below HB4.out
    have CP := tPut_by h4 n0 HF.out.2.1 (by show n0 < (A.now.set n0 1).length; rw [List.length_set]; exact HF.out.2.2.2.2) 3 (.inr rfl) key val (lf s.tx (acts.take i ++ [(key, val)])) 0 false (fun X hX => tput_leafE (h4.below hX) n0 HF.out.2.1 (by show n0 < (A.now.set n0 1).length; rw [List.length_set]; exact HF.out.2.2.2.2) (ct_al HF.out.2.2.2.2) x (lf s.tx (acts.take i)) (getA_put _ _ _) HY.out.1 (by show (3 : Int) ≠ 1; decide) (Nat.le_trans (putA_len _ _ _) (by have := HF.out.2.2.2.1; omega)) key val ⟨HKV.out.1, by have := HKV.out.2; omega⟩ (fun a ha => by
     have ha : a ∈ (acts.take i).map (·.1) := ha
     obtain ⟨q, hq, rfl⟩ := List.mem_map.1 ha
     exact HLT2.out q hq) ⟨by rw [HY.out.2]; exact hi1, by rw [HY.out.2]; exact hi6⟩ _ (lf_add _ _ _) 0 false ⟨rfl, rfl⟩)
    clear hi1 hst hl1 h4
    go_wp2_with fail
    refine CP.mono ?_
    rintro e w5 ⟨x5, rfl, hst, hms, hgx⟩
    have HS5 := Lib.hid hst
    have HM5 : Hid (Mods (mf :: Fm) w4 w5) := Lib.hid (by first | exact hms | exact hms.mono (fun k hk => by rw [List.mem_singleton.1 hk]; exact List.mem_cons_self ..))
    have HX5 := Lib.hid ((HM5.out.block _ (Array.getElem?_eq_some_iff.1 HX4.out).1 HQN.out).trans HX4.out)
    clear CP hst hms hgx b0 b1 b2 hr1 hr2
    dsimp only
    have b1 := cellOf HX5.out 1 (v := .int .u64 (key : Int)) rfl
    have CL := lput_end w5 _ i _ (HRL.out w5 HM5.out) (by have := HMM.out; omega) key val HLT2.out
    go_upto_region 12 with fail
    apply wp_region_lit
    iterate 12 go_step
    refine wpL_build (by kernel_rfl) 94 _ rfl _ (by simp only [List.map_toArray, List.map_cons, List.map_nil]; rfl) _ (pr_built _ _) ?_
    dsimp only [Act.put]
    go_wp2_with fail
    refine CL.mono ?_
    rintro e w6 ⟨vl6, rfl, hr6, hb6⟩
    have HR6 := Lib.hid hr6
    have HB6 := Lib.hid hb6
    clear CL hr6 hb6 b1
    dsimp only
    go_wp2_with fail
    have HMF6 : Hid (Mods (mf :: Fm) w w6) := Lib.hid (((HMO.out.thenBelow HB4.out).trans HM5.out (fun k hk => .inl hk)).thenBelow HB6.out)
    have HTK : Hid (acts.take (i + 1) = acts.take i ++ [(key, val)]) := Lib.hid (by rw [List.take_add_one, HP.out]; rfl)
    have HRN : Hid (w6.ownsRow w.heap.size 94 2 vl6 (i + 1) (pV (acts.take (i + 1)))) := Lib.hid (by rw [HTK.out]; exact ownsRow_base HR6.out (Nat.le_trans HMO.out.size (Nat.le_trans HB4.out.size HM5.out.size)))
    go_roundw
    case rel =>
     refine ⟨i + 1, by omega, by go_num, HMF6.out, HRN.out, .inr ⟨by omega, rfl, x5, ?_⟩⟩
     have h9 := HS5.out.below HB6.out
     rw [putA_put] at h9
     rw [HTK.out]
     exact h9
    case measure => simp [Go.RowKit.intOf]; omega
  ·obtain rfl : i = m := by omega
   rcases HD.out with ⟨h0, _⟩ | ⟨h1, rfl, x, hst⟩
   ·exfalso
    have := HMM.out
    omega
   ·have HS := Lib.hid hst
    clear hst
    go_wp2_with fail
    go_ret3
    refine ⟨x, _, rfl, ?_, HMO.out⟩
    have h9 := HS.out
    rw [List.take_of_length_le (by have := HMM.out; omega)] at h9
    exact h9
end Go.Proofs.YtgmahhdnjikdjaaGreat
/- The law's store of layer 9 (Made); its known, walked. -/
namespace Go.Proofs.YtgmahhdnjikdjaaGreat
open Go.RowKit Go.Maps Wire
set_option linter.unusedVariables false
set_option linter.unusedSimpArgs false
theorem ia_cells {w : World} {p : Nat} {A : M} {F : List Nat} (h : IA w p A F) : ∀ k ∈ F, ∃ cs t, w.heap[k]? = some (.cells cs t (0, 0)) ∧ t ≠ 176 := by
 obtain ⟨g1, g2, c1, c2, rfl, h⟩ := h
 intro k hk
 simp only [List.mem_cons, List.not_mem_nil, or_false] at hk
 rcases hk with rfl | rfl | rfl
 ·exact ⟨_, _, h.here, by decide⟩
 ·obtain ⟨cs, hh, _⟩ := h.r1
  exact ⟨_, _, hh, by decide⟩
 ·obtain ⟨cs, hh, _⟩ := h.r2
  exact ⟨_, _, hh, by decide⟩
theorem mapL_at0 {α : Type} {P : Program} {k : TypeId} {R : Value → Option (DataW Unit × List MemPlace)} {q : IntKind} {f : α → DataW Unit} {X w' : World} {b : Nat} {F : List Nat} (h : X.heap[b]? = some (.map #[] 0)) (hm : Mods F X w') (hb : b ∉ F) : MapL w' P k R q f b ([] : List (Nat × α)) := by
 obtain ⟨es, clock, h1, h2⟩ := mapL_new X P k R q f
 have e := heap_alloc_new X (.map #[] 0)
 have e2 : some (Obj.map es clock) = some (.map #[] 0) := h1.symm.trans e
 obtain ⟨rfl, rfl⟩ := Obj.map.inj (Option.some.inj e2)
 exact ⟨#[], 0, (hm.block _ (Array.getElem?_eq_some_iff.1 h).1 hb).trans h, h2⟩
theorem stF_new {w : World} {S B pm pd mf md : Nat} {s : Su} {A D : M} {Fm Fd : List Nat} (h1 : StB w S B pm pd mf md s A D Fm Fd false) (h2 : w.heap[mf]? = some (.map #[] 0)) (h3 : w.heap[md]? = some (.map #[] 0)) (h4 : mf ≠ md) (h5 : ∀ k ∈ Fd, k ∉ Fm) : StF w S B pm pd mf md s A D Fm Fd [] := by
 have hm : ∀ k ∈ Fm, (∃ cs t, w.heap[k]? = some (.cells cs t (0, 0)) ∧ t ≠ 176) := ia_cells h1.ma
 have hd : ∀ k ∈ Fd, (∃ cs t, w.heap[k]? = some (.cells cs t (0, 0)) ∧ t ≠ 176) := ia_cells h1.da
 have hF : ∀ k ∈ Fm ++ Fd, (∃ cs t, w.heap[k]? = some (.cells cs t (0, 0)) ∧ t ≠ 176) := fun k hk => by
  rcases List.mem_append.1 hk with h | h
  ·exact hm k h
  ·exact hd k h
 have hmap : ∀ q, w.heap[q]? = some (.map #[] 0) → q ∉ Fm ++ Fd := fun q hq hk => by
  obtain ⟨cs, t, e, _⟩ := hF q hk
  rw [hq] at e
  cases e
 refine ⟨h1, mapL_at0 h2 (Mods.refl [] w) (by simp), fun p hp => (by simp at hp), fun p hp => (by simp at hp), (Array.getElem?_eq_some_iff.1 h3).1, ?_, ?_, h5⟩
 ·intro hk
  have hb := h1.box
  rcases List.mem_cons.1 hk with e | hk
  ·rw [e, h2] at hb; cases hb
  ·rcases List.mem_cons.1 hk with e | hk
   ·rw [e, h3] at hb; cases hb
   ·obtain ⟨cs, t, e, hne⟩ := hF S hk
    rw [hb] at e
    cases e
    exact hne rfl
 ·intro hk
  rcases List.mem_cons.1 hk with e | hk
  ·exact h4 e
  ·exact hmap mf h2 hk
def su9 : Su := suF 200 60 (pagesN 200 + pagesN 60)
def ar9 : M := ⟨ctK 200 (pagesN 200 + pagesN 60), ctK 200 (pagesN 200 + pagesN 60), 0, 0⟩
def dr9 : M := ⟨List.replicate 60 0, List.replicate 60 0, 0, 0⟩
/-- A store just made. -/
def Made9 (w : World) (e : Ending) (w' : World) : Prop := ∃ S B pm pd mf md Fm Fd, e = .returned (pt S) ∧ StF w' S B pm pd mf md su9 ar9 dr9 Fm Fd [] ∧ Below w.heap.size w w' ∧ ∀ k ∈ stF S mf md Fm Fd, w.heap.size ≤ k
theorem mk9 : MkOk 1048 200 60 := by constructor <;> decide
set_option maxRecDepth 100000 in
set_option maxHeartbeats 3200000 in
theorem made09_at (w : World) : Calls Tryz.prog 15 #[] w (Made9 w) := by
 have CN := dknew_at w 1048 (by decide) (by decide)
 have CF : Hid (∀ w1 B iv, DkAt w.heap.size w1 B iv (.slice none 0 0) (dk0 1048) → Below w.heap.size w w1 → Calls Tryz.prog 47 #[.pointer (some ⟨B, 0, none⟩), .int .i64 200, .int .i64 60] w1 fun e w' => e = .returned (.int .i64 0) ∧ MadeP w 1048 200 60 B w') := Lib.hid (fun w1 B iv h1 h2 => fmt_call w w1 1048 200 60 B iv mk9 (by decide) h1 h2)
 have CO : Hid (∀ X B, MadeP w 1048 200 60 B X → Calls Tryz.prog 48 #[.pointer (some ⟨B, 0, none⟩)] X (OpenP w X B 200 60)) := Lib.hid (fun X B hX => open_call w X _ 200 60 B mk9 (by decide) hX)
 go_enter Tryz.func15, Tryz.ntmps15
 go_wp2_with fail
 refine CN.mono ?_
 rintro e w1 ⟨B, iv, rfl, hd, hb⟩
 dsimp only
 have C := CF.out w1 B iv hd hb
 clear CN hd hb
 go_wp2_with fail
 refine C.mono ?_
 rintro e w2 ⟨rfl, hm⟩
 have HM := Lib.hid hm
 clear C hm
 have C := CO.out w2 B HM.out
 go_wp2_with fail
 refine C.mono ?_
 rintro e w3 ⟨S, pm, pd, mf, md, Fm, Fd, rfl, h1, h2, h3, h4, h5, h6, h7, h8, h9, h10, h11⟩
 have HB2 : Hid (Below w.heap.size w w2) := Lib.hid HM.out.2
 have HX : Hid (Made9 w (.returned (pt S)) w3) := Lib.hid ⟨S, B, pm, pd, mf, md, Fm, Fd, rfl, stF_new h1 h2 h3 h4 h11, bthn HB2.out h5, fun k hk => Nat.le_trans HB2.out.size (by
  rcases List.mem_cons.1 hk with rfl | hk
  ·exact h6
  rcases List.mem_cons.1 hk with rfl | hk
  ·exact h7
  rcases List.mem_cons.1 hk with rfl | hk
  ·exact h8
  rcases List.mem_append.1 hk with hk | hk
  ·exact h9 k hk
  ·exact h10 k hk)⟩
 clear C h1 h2 h3 h4 h5 h6 h7 h8 h9 h10 h11
 unfold pt at HX ⊢
 dsimp only
 go_wp2_with fail
 go_ret
 exact HX.out
theorem ar9_len : ar9.now.length = 200 := by decide +kernel
theorem find9 : find ar9 0 = some 4 := by decide +kernel
theorem ar9_len' : (allocM ar9 4).now.length = 200 := by decide +kernel
end Go.Proofs.YtgmahhdnjikdjaaGreat
