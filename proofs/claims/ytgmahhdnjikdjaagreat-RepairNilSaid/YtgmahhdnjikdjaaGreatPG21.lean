import Derived.Test.YtgmahhdnjikdjaaGreatPG20
set_option linter.unusedVariables false
set_option linter.unusedSimpArgs false
/- check: walk (of a store without trees), walked. -/
namespace Go.Proofs.YtgmahhdnjikdjaaGreat
open Go.RowKit Wire
set_option linter.unusedVariables false
set_option linter.unusedSimpArgs false
theorem tag_ne {w : World} {j k : Nat} {cs ds : Array Value} {e f : TypeId} {a b : Nat × Nat} (h1 : w.heap[j]? = some (.cells cs e a)) (h2 : w.heap[k]? = some (.cells ds f b)) (hne : e ≠ f) : j ≠ k := by
 rintro rfl
 rw [h1] at h2
 exact hne (Obj.cells.inj (Option.some.inj h2)).2.1
theorem run_store_func (W : World) (a : Addr) (f : Fn) (b c : Array Value) : (store a (.func f b c)).run Tryz.prog W = stored Tryz.prog W a (.func f b c) .plain := run_store Tryz.prog W a _ .plain rfl
set_option maxRecDepth 100000 in
set_option maxHeartbeats 12800000 in
theorem cwalk_at {w : World} {S B pm pd mf md : Nat} {s : Su} {A D : M} {Fm Fd : List Nat} {bk : Bool} (h : StB w S B pm pd mf md s A D Fm Fd bk) (m k P : Nat) (hsm : s.mt = (m : Int)) (hsk : s.data = (k : Int)) (hr : s.top = 0 ∧ s.base = 0 ∧ s.stage = 0) (hP : pagesN m + pagesN k = P) (hP6 : P ≤ 6) (hpg : ∀ i, i < P → s.pages.getD i 0 = i + 1) (hm : 16 ≤ m ∧ m ≤ 1000) (hk : 1 ≤ k ∧ k ≤ 1000) :
  Calls Tryz.prog 204 #[.pointer (some ⟨S, 0, none⟩)] w fun e w' => ∃ q gm gd mp, e = .returned (pt q) ∧ NmAt w' q gm gd mp m k (ctK m P) (List.replicate k 0) ∧ Below w.heap.size w w' := by
 obtain ⟨w1, hw1⟩ : ∃ W, w.alloc (.cells #[.pointer (some ⟨S, 0, none⟩)] 37) = W := ⟨_, rfl⟩
 have hb1 : Below w.heap.size w w1 := by rw [← hw1]; exact balloc (Below.refl _ _) _
 have hx1 : w1.heap[w.heap.size]? = some (.cells #[.pointer (some ⟨S, 0, none⟩)] 37 (0, 0)) := by rw [← hw1]; exact heap_alloc_new _ _
 have c0 := cellOf hx1 0 rfl
 have CS := ssuper_at (h.below hb1)
 rw [suL_v] at CS
 have HB1 := Lib.hid hb1
 have HX1 := Lib.hid hx1
 have HSM := Lib.hid (And.intro hsm hsk)
 have HRT := Lib.hid hr
 have HPG := Lib.hid hpg
 have CPG : Hid (∀ X (n : Nat), n ≤ 1000 → Calls Tryz.prog 134 #[.int .i64 (n : Int)] X fun e w' => e = .returned (.int .i64 (pagesN n : Int)) ∧ Below X.heap.size X w') := Lib.hid (fun X n hn => (pages_any X n (by omega)).mono fun e w' hp => ⟨hp.1, by rw [← hp.2]; exact Below.refl _ _⟩)
 have HPP := Lib.hid hP
 have hmf : ∀ (fn : Fn) (first cap : Array Value) (w : World), (Instr.makeFunc fn first cap).run Tryz.prog w = .ok (.func fn first cap) w := by intros; rfl
 clear h hb1 hx1 hsm hsk hr hpg
 unfold pt
 go_enter Tryz.func204, Tryz.ntmps204
 go_wp2_with fail
 (try rw [hw1])
 clear hw1
 refine CS.mono ?_
 rintro e w2 ⟨rfl, hb2⟩
 dsimp only
 obtain ⟨SL, hSL⟩ : ∃ L, suL s = L := ⟨_, rfl⟩
 have HSL := Lib.hid hSL
 have HS19 : Hid (SL.length = 19) := Lib.hid (by rw [← hSL]; rfl)
 have HS1 : Hid (∀ u ∈ SL, u.oneCell' = true) := Lib.hid (by rw [← hSL]; exact suL_one s)
 rw [hSL]
 have hss : SL.toArray.size = 19 := by rw [List.size_toArray, HS19.out]
 have HB2 := Lib.hid (bthn HB1.out hb2)
 clear CS hb2 hSL c0
 repeat (first
  | (refine wpList_store_mid rfl 72 _ _ rfl w2.heap.size 0 SL.toArray rfl rfl (thereOf (heap_alloc_new w2 _) (by rw [hss]; simp)) (by rw [hss]; exact infoSup) (Array.all_eq_true_iff_forall_mem.2 (fun v hv => HS1.out v (by simpa using hv))) ?_; refine Hid.out ?_)
  | go_step)
 refine Lib.hid ?_
 simp only [List.toList_toArray]
 obtain ⟨w3, hw3⟩ : ∃ W, (w2.alloc (.cells #[.int .u64 0, .int .i64 0, .int .i64 0, .int .u32 0, .int .u32 0, .int .u32 0, .int .u32 0, .int .u32 0, .int .u32 0, .int .u32 0, .int .u32 0, .int .u32 0, .int .i64 0, .int .u64 0, .int .u64 0, .int .u64 0, .int .u64 0, .int .u64 0, .bool false] 72)).setCells w2.heap.size 0 SL = W := ⟨_, rfl⟩
 have HB3 : Hid (Below w.heap.size w w3) := Lib.hid (bthn HB2.out (by rw [← hw3]; exact belowSets (Nat.le_refl _) _ _ _ (balloc (Below.refl _ _) _)))
 obtain ⟨xb, hxb⟩ : ∃ x, w2.heap.size = x := ⟨_, rfl⟩
 have HX3 : Hid (w3.heap[xb]? = some (.cells (suL s).toArray 72 (0, 0))) := Lib.hid (by rw [HSL.out, ← hw3, ← hxb]; exact sets_all (heap_alloc_new _ _) (by rw [HS19.out]; rfl))
 have HXL : Hid (xb < w3.heap.size) := Lib.hid (Array.getElem?_eq_some_iff.1 HX3.out).1
 rw [hw3, hxb]
 clear hw3 hxb hss
 have HC1 : Hid (w3.cell? ⟨xb, 1, none⟩ = some (.int .i64 (m : Int))) := Lib.hid (cellOf HX3.out 1 (by rw [← HSM.out.1]; rfl))
 have HC2 : Hid (w3.cell? ⟨xb, 2, none⟩ = some (.int .i64 (k : Int))) := Lib.hid (cellOf HX3.out 2 (by rw [← HSM.out.2]; rfl))
 dsimp only [Act.put]
 go_upto_region 2 with fail
 go_cut [4] (fun t4 wx => ∃ W tb q gm gd mp, W = wx ∧ t4 = .pointer (some ⟨tb, 0, none⟩) ∧ Below w3.heap.size w3 W ∧ w3.heap.size ≤ gm ∧ W.heap[tb]? = some (.cells #[.pointer (some ⟨q, 0, none⟩)] 323 (0, 0)) ∧ NmAt W q gm gd mp m k (List.replicate m 0) (List.replicate k 0))
 case first =>
  have HSS : Hid (∀ X, Below w3.heap.size w3 X → (X.cell? ⟨xb, 1, none⟩ = some (.int .i64 (m : Int)) ∧ X.cell? ⟨xb, 2, none⟩ = some (.int .i64 (k : Int))) ∧ Below w3.heap.size w3 X) := Lib.hid (fun X hb => ⟨⟨(World.cell?_of_block (hb.block _ (HXL.out))).trans (HC1.out), (World.cell?_of_block (hb.block _ (HXL.out))).trans (HC2.out)⟩, hb⟩)
  refine wp_region_held_drew (S := fun X => (X.cell? ⟨xb, 1, none⟩ = some (.int .i64 (m : Int)) ∧ X.cell? ⟨xb, 2, none⟩ = some (.int .i64 (k : Int))) ∧ Below w3.heap.size w3 X) (by kernel_rfl) (HSS.out _ (Below.refl _ _).drew) (fun hHeld => ?_)
  have hbe : Below w3.heap.size w3 w3.drew := (Below.refl _ _).drew
  obtain ⟨wd, hwd⟩ : ∃ y, w3.drew = y := ⟨_, rfl⟩
  rw [hwd] at hHeld hbe ⊢
  have HBE := Lib.hid hbe
  have HS0 : Hid (w3.heap.size ≤ wd.heap.size) := Lib.hid HBE.out.size
  clear hwd hbe
  refine wpAnyH_take (i := 0) (v := ?_) rfl (by kernel_rfl) (by kernel_rfl) (by kernel_rfl) (fun _ _ _ h => h) (Or.inl ⟨by rfl, ?_⟩) (by assumption) ?_
  rotate_left
  ·(intro w hSw; (try dsimp only at hSw); simp only [List.getElem_toArray, List.getElem_cons_zero, List.getElem_cons_succ]; go_simp; first | done | with_reducible rfl)
  simp only [List.getElem_toArray, List.getElem_cons_zero, List.getElem_cons_succ, Act.put, List.setIfInBounds_toArray, List.set_cons_zero, List.set_cons_succ]
  refine wpAnyH_take (i := 3) (v := ?_) rfl (by kernel_rfl) (by kernel_rfl) (by kernel_rfl) (fun _ _ _ h => h) (Or.inl ⟨by rfl, ?_⟩) (by assumption) ?_
  rotate_left
  ·(intro w hSw; (try dsimp only at hSw); simp only [List.getElem_toArray, List.getElem_cons_zero, List.getElem_cons_succ]; go_simp; first | done | with_reducible rfl)
  simp only [List.getElem_toArray, List.getElem_cons_zero, List.getElem_cons_succ, Act.put, List.setIfInBounds_toArray, List.set_cons_zero, List.set_cons_succ]
  refine wpAnyH_take (i := 1) (v := ?_) rfl (by kernel_rfl) (by kernel_rfl) (by kernel_rfl) (fun _ _ _ h => h) (Or.inl ⟨by rfl, ?_⟩) (by assumption) ?_
  rotate_left
  ·(intro w hSw; (try dsimp only at hSw); simp only [List.getElem_toArray, List.getElem_cons_zero, List.getElem_cons_succ]; go_simp; first | done | with_reducible rfl)
  simp only [List.getElem_toArray, List.getElem_cons_zero, List.getElem_cons_succ, Act.put, List.setIfInBounds_toArray, List.set_cons_zero, List.set_cons_succ]
  refine wpAnyH_take (i := 4) (v := ?_) rfl (by kernel_rfl) (by kernel_rfl) (by kernel_rfl) (fun _ _ _ h => h) (Or.inl ⟨by rfl, ?_⟩) (by assumption) ?_
  rotate_left
  ·(intro w hSw; (try dsimp only at hSw); simp only [List.getElem_toArray, List.getElem_cons_zero, List.getElem_cons_succ]; go_simp; first | done | with_reducible rfl)
  simp only [List.getElem_toArray, List.getElem_cons_zero, List.getElem_cons_succ, Act.put, List.setIfInBounds_toArray, List.set_cons_zero, List.set_cons_succ]
  refine wpAnyH_ready (rs := [2, 5, 6, 9]) (by kernel_rfl) (by simp) ?_
  refine AllReadyH.cons rfl (fun K hK => ?_) (AllReadyH.cons rfl (fun K hK => ?_) (AllReadyH.cons rfl (fun K hK => ?_) (AllReadyH.cons rfl (fun K hK => ?_) (AllReadyH.nil))))
  ·skip
   have hmm := run_mkI wd m (by omega)
   simp only [List.getElem_toArray, List.getElem_cons_zero, List.getElem_cons_succ]
   go_simp
   clear hmm
   obtain ⟨b2, hw2⟩ : ∃ b, wd.heap.size = b := ⟨_, rfl⟩
   obtain ⟨y2, hy2⟩ : ∃ y, wd.alloc (.cells (iV (List.replicate m 0)).toArray 3) = y := ⟨_, rfl⟩
   rw [hy2, hw2]
   have hx2 : Below wd.heap.size wd y2 := by rw [← hy2]; exact balloc (Below.refl _ _) _
   have HN2 : Hid (y2.heap[b2]? = some (.cells (iV (List.replicate m 0)).toArray 3 (0, 0))) := Lib.hid (by rw [← hy2, ← hw2]; exact heap_alloc_new _ _)
   have HG2 : Hid (w3.heap.size ≤ b2) := Lib.hid (by have := HBE.out.size; omega)
   clear hy2 hw2
   have HBE := Lib.hid (bthen HBE.out hx2)
   have hSp := HSS.out _ HBE.out
   clear hHeld
   refine hK.out _ _ hSp (fun hHeld => ?_)
   clear hSp hK K
   try simp only [Act.put, List.setIfInBounds_toArray, List.set_cons_zero, List.set_cons_succ]
   clear hx2
   refine wpAnyH_ready (rs := [5, 6, 9]) (by kernel_rfl) (by simp) ?_
   refine AllReadyH.cons rfl (fun K hK => ?_) (AllReadyH.cons rfl (fun K hK => ?_) (AllReadyH.cons rfl (fun K hK => ?_) (AllReadyH.nil)))
   ·skip
    have hmm := run_mkI y2 k (by omega)
    simp only [List.getElem_toArray, List.getElem_cons_zero, List.getElem_cons_succ]
    go_simp
    clear hmm
    obtain ⟨b5, hw5⟩ : ∃ b, y2.heap.size = b := ⟨_, rfl⟩
    obtain ⟨y5, hy5⟩ : ∃ y, y2.alloc (.cells (iV (List.replicate k 0)).toArray 3) = y := ⟨_, rfl⟩
    rw [hy5, hw5]
    have hx5 : Below y2.heap.size y2 y5 := by rw [← hy5]; exact balloc (Below.refl _ _) _
    have HN5 : Hid (y5.heap[b5]? = some (.cells (iV (List.replicate k 0)).toArray 3 (0, 0))) := Lib.hid (by rw [← hy5, ← hw5]; exact heap_alloc_new _ _)
    have HG5 : Hid (w3.heap.size ≤ b5) := Lib.hid (by have := HBE.out.size; omega)
    have HNE2_5 : Hid (b2 ≠ b5) := Lib.hid (by have := (Array.getElem?_eq_some_iff.1 HN2.out).1; omega)
    clear hy5 hw5
    have HBE := Lib.hid (bthen HBE.out hx5)
    have hSp := HSS.out _ HBE.out
    clear hHeld
    refine hK.out _ _ hSp (fun hHeld => ?_)
    clear hSp hK K
    try simp only [Act.put, List.setIfInBounds_toArray, List.set_cons_zero, List.set_cons_succ]
    have HN2 := Lib.hid ((hx5.block b2 (Array.getElem?_eq_some_iff.1 HN2.out).1).trans HN2.out)
    clear hx5
    refine wpAnyH_ready (rs := [6, 9]) (by kernel_rfl) (by simp) ?_
    refine AllReadyH.cons rfl (fun K hK => ?_) (AllReadyH.cons rfl (fun K hK => ?_) (AllReadyH.nil))
    ·skip
     have hmm := @run_makeMap Tryz.prog
     simp only [List.getElem_toArray, List.getElem_cons_zero, List.getElem_cons_succ]
     go_simp
     clear hmm
     obtain ⟨b6, hw6⟩ : ∃ b, y5.heap.size = b := ⟨_, rfl⟩
     obtain ⟨y6, hy6⟩ : ∃ y, y5.alloc (.map #[] 0) = y := ⟨_, rfl⟩
     rw [hy6, hw6]
     have hx6 : Below y5.heap.size y5 y6 := by rw [← hy6]; exact balloc (Below.refl _ _) _
     have HN6 : Hid (y6.heap[b6]? = some (.map #[] 0)) := Lib.hid (by rw [← hy6, ← hw6]; exact heap_alloc_new _ _)
     have HG6 : Hid (w3.heap.size ≤ b6) := Lib.hid (by have := HBE.out.size; omega)
     have HNE2_6 : Hid (b2 ≠ b6) := Lib.hid (by have := (Array.getElem?_eq_some_iff.1 HN2.out).1; omega)
     have HNE5_6 : Hid (b5 ≠ b6) := Lib.hid (by have := (Array.getElem?_eq_some_iff.1 HN5.out).1; omega)
     clear hy6 hw6
     have HBE := Lib.hid (bthen HBE.out hx6)
     have hSp := HSS.out _ HBE.out
     clear hHeld
     refine hK.out _ _ hSp (fun hHeld => ?_)
     clear hSp hK K
     try simp only [Act.put, List.setIfInBounds_toArray, List.set_cons_zero, List.set_cons_succ]
     have HN2 := Lib.hid ((hx6.block b2 (Array.getElem?_eq_some_iff.1 HN2.out).1).trans HN2.out)
     have HN5 := Lib.hid ((hx6.block b5 (Array.getElem?_eq_some_iff.1 HN5.out).1).trans HN5.out)
     clear hx6
     refine wpAnyH_take (i := 7) (v := .agg #[.slice (some ⟨b2, 0, none⟩) m m, .slice (some ⟨b5, 0, none⟩) k k, .map (some b6), .slice none 0 0]) rfl (by kernel_rfl) (by kernel_rfl) (by kernel_rfl) (fun _ _ _ h => h) (Or.inl ⟨by rfl, ?_⟩) (by assumption) ?_
     ·(intro w hSw; simp only [List.getElem_toArray, List.getElem_cons_zero, List.getElem_cons_succ]; (have hbu := nm_built b2 m b5 k b6; go_simp; first | done | with_reducible rfl))
     simp only [List.getElem_toArray, List.getElem_cons_zero, List.getElem_cons_succ, Act.put, List.setIfInBounds_toArray, List.set_cons_zero, List.set_cons_succ]
     refine wpAnyH_ready (rs := [8, 9]) (by kernel_rfl) (by simp) ?_
     refine AllReadyH.cons rfl (fun K hK => ?_) (AllReadyH.cons rfl (fun K hK => ?_) (AllReadyH.nil))
     ·skip
      simp only [List.getElem_toArray, List.getElem_cons_zero, List.getElem_cons_succ]
      go_simp
      obtain ⟨b8, hw8⟩ : ∃ b, y6.heap.size = b := ⟨_, rfl⟩
      obtain ⟨y8, hy8⟩ : ∃ y, y6.alloc (.cells #[.slice (some ⟨b2, 0, none⟩) m m, .slice (some ⟨b5, 0, none⟩) k k, .map (some b6), .slice none 0 0] 327) = y := ⟨_, rfl⟩
      rw [hy8, hw8]
      have hx8 : Below y6.heap.size y6 y8 := by rw [← hy8]; exact balloc (Below.refl _ _) _
      have HN8 : Hid (y8.heap[b8]? = some (.cells #[.slice (some ⟨b2, 0, none⟩) m m, .slice (some ⟨b5, 0, none⟩) k k, .map (some b6), .slice none 0 0] 327 (0, 0))) := Lib.hid (by rw [← hy8, ← hw8]; exact heap_alloc_new _ _)
      have HG8 : Hid (w3.heap.size ≤ b8) := Lib.hid (by have := HBE.out.size; omega)
      have HNE2_8 : Hid (b2 ≠ b8) := Lib.hid (by have := (Array.getElem?_eq_some_iff.1 HN2.out).1; omega)
      have HNE5_8 : Hid (b5 ≠ b8) := Lib.hid (by have := (Array.getElem?_eq_some_iff.1 HN5.out).1; omega)
      have HNE6_8 : Hid (b6 ≠ b8) := Lib.hid (by have := (Array.getElem?_eq_some_iff.1 HN6.out).1; omega)
      clear hy8 hw8
      have HBE := Lib.hid (bthen HBE.out hx8)
      have hSp := HSS.out _ HBE.out
      clear hHeld
      refine hK.out _ _ hSp (fun hHeld => ?_)
      clear hSp hK K
      try simp only [Act.put, List.setIfInBounds_toArray, List.set_cons_zero, List.set_cons_succ]
      have HN2 := Lib.hid ((hx8.block b2 (Array.getElem?_eq_some_iff.1 HN2.out).1).trans HN2.out)
      have HN5 := Lib.hid ((hx8.block b5 (Array.getElem?_eq_some_iff.1 HN5.out).1).trans HN5.out)
      have HN6 := Lib.hid ((hx8.block b6 (Array.getElem?_eq_some_iff.1 HN6.out).1).trans HN6.out)
      clear hx8
      refine wpAnyH_ready (rs := [9]) (by kernel_rfl) (by simp) ?_
      refine AllReadyH.cons rfl (fun K hK => ?_) (AllReadyH.nil)
      simp only [List.getElem_toArray, List.getElem_cons_zero, List.getElem_cons_succ]
      go_simp
      obtain ⟨b9, hw9⟩ : ∃ b, y8.heap.size = b := ⟨_, rfl⟩
      obtain ⟨y9, hy9⟩ : ∃ y, y8.alloc (.cells #[.pointer none] 323) = y := ⟨_, rfl⟩
      rw [hy9, hw9]
      have hx9 : Below y8.heap.size y8 y9 := by rw [← hy9]; exact balloc (Below.refl _ _) _
      have HN9 : Hid (y9.heap[b9]? = some (.cells #[.pointer none] 323 (0, 0))) := Lib.hid (by rw [← hy9, ← hw9]; exact heap_alloc_new _ _)
      have HG9 : Hid (w3.heap.size ≤ b9) := Lib.hid (by have := HBE.out.size; omega)
      have HNE2_9 : Hid (b2 ≠ b9) := Lib.hid (by have := (Array.getElem?_eq_some_iff.1 HN2.out).1; omega)
      have HNE5_9 : Hid (b5 ≠ b9) := Lib.hid (by have := (Array.getElem?_eq_some_iff.1 HN5.out).1; omega)
      have HNE6_9 : Hid (b6 ≠ b9) := Lib.hid (by have := (Array.getElem?_eq_some_iff.1 HN6.out).1; omega)
      have HNE8_9 : Hid (b8 ≠ b9) := Lib.hid (by have := (Array.getElem?_eq_some_iff.1 HN8.out).1; omega)
      clear hy9 hw9
      have HBE := Lib.hid (bthen HBE.out hx9)
      have hSp := HSS.out _ HBE.out
      clear hHeld
      refine hK.out _ _ hSp (fun hHeld => ?_)
      clear hSp hK K
      try simp only [Act.put, List.setIfInBounds_toArray, List.set_cons_zero, List.set_cons_succ]
      have HN2 := Lib.hid ((hx9.block b2 (Array.getElem?_eq_some_iff.1 HN2.out).1).trans HN2.out)
      have HN5 := Lib.hid ((hx9.block b5 (Array.getElem?_eq_some_iff.1 HN5.out).1).trans HN5.out)
      have HN6 := Lib.hid ((hx9.block b6 (Array.getElem?_eq_some_iff.1 HN6.out).1).trans HN6.out)
      have HN8 := Lib.hid ((hx9.block b8 (Array.getElem?_eq_some_iff.1 HN8.out).1).trans HN8.out)
      clear hx9
      refine wpAnyH_ready (rs := [10]) (by kernel_rfl) (by simp) ?_
      refine AllReadyH.cons rfl (fun K hK => ?_) (AllReadyH.nil)
      have hc10_0 := cellOf HN9.out 0 rfl
      have hf10_0 := frozenOf HN9.out 0
      simp only [List.getElem_toArray, List.getElem_cons_zero, List.getElem_cons_succ]
      go_simp
      obtain ⟨y10, hy10⟩ : ∃ y, (y9.setCell ⟨b9, 0, none⟩ (.pointer (some ⟨b8, 0, none⟩))) = y := ⟨_, rfl⟩
      rw [hy10]
      have hm10 : Mods [b9] y9 y10 := by rw [← hy10]; exact (Mods.refl [b9] y9).setCell (p := ⟨b9, 0, none⟩) (by simp) _
      have hv10 := setOf (HN9.out) 0 (.pointer (some ⟨b8, 0, none⟩))
      rw [hy10] at hv10
      clear hy10 hc10_0 hf10_0
      have HBE : Hid (Below w3.heap.size w3 y10) := Lib.hid (HBE.out.trans (hm10.below (fun k hk => by have := HG9.out; have e := List.mem_singleton.1 hk; omega) HBE.out.size))
      have hSp := HSS.out _ HBE.out
      clear hHeld
      refine hK.out _ _ hSp (fun hHeld => ?_)
      clear hSp hK K
      try simp only [Act.put, List.setIfInBounds_toArray, List.set_cons_zero, List.set_cons_succ]
      have HN2 := Lib.hid ((hm10.block b2 (Array.getElem?_eq_some_iff.1 HN2.out).1 (fun h => by have e := List.mem_singleton.1 h; have := HNE2_9.out; omega)).trans HN2.out)
      have HN5 := Lib.hid ((hm10.block b5 (Array.getElem?_eq_some_iff.1 HN5.out).1 (fun h => by have e := List.mem_singleton.1 h; have := HNE5_9.out; omega)).trans HN5.out)
      have HN6 := Lib.hid ((hm10.block b6 (Array.getElem?_eq_some_iff.1 HN6.out).1 (fun h => by have e := List.mem_singleton.1 h; have := HNE6_9.out; omega)).trans HN6.out)
      have HN8 := Lib.hid ((hm10.block b8 (Array.getElem?_eq_some_iff.1 HN8.out).1 (fun h => by have e := List.mem_singleton.1 h; have := HNE8_9.out; omega)).trans HN8.out)
      simp only [List.setIfInBounds_toArray, List.set_cons_zero, List.set_cons_succ] at hv10
      have HN9 := Lib.hid hv10
      clear hv10 hm10
      refine wpAnyH_done (by kernel_rfl) ?_ _
      have HEND := Lib.hid hHeld.2
      have HSE := Lib.hid hHeld.1
      clear hHeld
      clear HSE HSS
      go_wp2_with fail
      go_meet
      exact ⟨_, b9, b8, b2, b5, b6, rfl, rfl, HEND.out, HG2.out, HN9.out, ⟨HN8.out, HN2.out, HN5.out, HNE2_5.out⟩⟩
     ·skip
      simp only [List.getElem_toArray, List.getElem_cons_zero, List.getElem_cons_succ]
      go_simp
      obtain ⟨b9, hw9⟩ : ∃ b, y6.heap.size = b := ⟨_, rfl⟩
      obtain ⟨y9, hy9⟩ : ∃ y, y6.alloc (.cells #[.pointer none] 323) = y := ⟨_, rfl⟩
      rw [hy9, hw9]
      have hx9 : Below y6.heap.size y6 y9 := by rw [← hy9]; exact balloc (Below.refl _ _) _
      have HN9 : Hid (y9.heap[b9]? = some (.cells #[.pointer none] 323 (0, 0))) := Lib.hid (by rw [← hy9, ← hw9]; exact heap_alloc_new _ _)
      have HG9 : Hid (w3.heap.size ≤ b9) := Lib.hid (by have := HBE.out.size; omega)
      have HNE2_9 : Hid (b2 ≠ b9) := Lib.hid (by have := (Array.getElem?_eq_some_iff.1 HN2.out).1; omega)
      have HNE5_9 : Hid (b5 ≠ b9) := Lib.hid (by have := (Array.getElem?_eq_some_iff.1 HN5.out).1; omega)
      have HNE6_9 : Hid (b6 ≠ b9) := Lib.hid (by have := (Array.getElem?_eq_some_iff.1 HN6.out).1; omega)
      clear hy9 hw9
      have HBE := Lib.hid (bthen HBE.out hx9)
      have hSp := HSS.out _ HBE.out
      clear hHeld
      refine hK.out _ _ hSp (fun hHeld => ?_)
      clear hSp hK K
      try simp only [Act.put, List.setIfInBounds_toArray, List.set_cons_zero, List.set_cons_succ]
      have HN2 := Lib.hid ((hx9.block b2 (Array.getElem?_eq_some_iff.1 HN2.out).1).trans HN2.out)
      have HN5 := Lib.hid ((hx9.block b5 (Array.getElem?_eq_some_iff.1 HN5.out).1).trans HN5.out)
      have HN6 := Lib.hid ((hx9.block b6 (Array.getElem?_eq_some_iff.1 HN6.out).1).trans HN6.out)
      clear hx9
      refine wpAnyH_ready (rs := [8]) (by kernel_rfl) (by simp) ?_
      refine AllReadyH.cons rfl (fun K hK => ?_) (AllReadyH.nil)
      simp only [List.getElem_toArray, List.getElem_cons_zero, List.getElem_cons_succ]
      go_simp
      obtain ⟨b8, hw8⟩ : ∃ b, y9.heap.size = b := ⟨_, rfl⟩
      obtain ⟨y8, hy8⟩ : ∃ y, y9.alloc (.cells #[.slice (some ⟨b2, 0, none⟩) m m, .slice (some ⟨b5, 0, none⟩) k k, .map (some b6), .slice none 0 0] 327) = y := ⟨_, rfl⟩
      rw [hy8, hw8]
      have hx8 : Below y9.heap.size y9 y8 := by rw [← hy8]; exact balloc (Below.refl _ _) _
      have HN8 : Hid (y8.heap[b8]? = some (.cells #[.slice (some ⟨b2, 0, none⟩) m m, .slice (some ⟨b5, 0, none⟩) k k, .map (some b6), .slice none 0 0] 327 (0, 0))) := Lib.hid (by rw [← hy8, ← hw8]; exact heap_alloc_new _ _)
      have HG8 : Hid (w3.heap.size ≤ b8) := Lib.hid (by have := HBE.out.size; omega)
      have HNE2_8 : Hid (b2 ≠ b8) := Lib.hid (by have := (Array.getElem?_eq_some_iff.1 HN2.out).1; omega)
      have HNE5_8 : Hid (b5 ≠ b8) := Lib.hid (by have := (Array.getElem?_eq_some_iff.1 HN5.out).1; omega)
      have HNE6_8 : Hid (b6 ≠ b8) := Lib.hid (by have := (Array.getElem?_eq_some_iff.1 HN6.out).1; omega)
      have HNE8_9 : Hid (b8 ≠ b9) := Lib.hid (by have := (Array.getElem?_eq_some_iff.1 HN9.out).1; omega)
      clear hy8 hw8
      have HBE := Lib.hid (bthen HBE.out hx8)
      have hSp := HSS.out _ HBE.out
      clear hHeld
      refine hK.out _ _ hSp (fun hHeld => ?_)
      clear hSp hK K
      try simp only [Act.put, List.setIfInBounds_toArray, List.set_cons_zero, List.set_cons_succ]
      have HN2 := Lib.hid ((hx8.block b2 (Array.getElem?_eq_some_iff.1 HN2.out).1).trans HN2.out)
      have HN5 := Lib.hid ((hx8.block b5 (Array.getElem?_eq_some_iff.1 HN5.out).1).trans HN5.out)
      have HN6 := Lib.hid ((hx8.block b6 (Array.getElem?_eq_some_iff.1 HN6.out).1).trans HN6.out)
      have HN9 := Lib.hid ((hx8.block b9 (Array.getElem?_eq_some_iff.1 HN9.out).1).trans HN9.out)
      clear hx8
      refine wpAnyH_ready (rs := [10]) (by kernel_rfl) (by simp) ?_
      refine AllReadyH.cons rfl (fun K hK => ?_) (AllReadyH.nil)
      have hc10_0 := cellOf HN9.out 0 rfl
      have hf10_0 := frozenOf HN9.out 0
      simp only [List.getElem_toArray, List.getElem_cons_zero, List.getElem_cons_succ]
      go_simp
      obtain ⟨y10, hy10⟩ : ∃ y, (y8.setCell ⟨b9, 0, none⟩ (.pointer (some ⟨b8, 0, none⟩))) = y := ⟨_, rfl⟩
      rw [hy10]
      have hm10 : Mods [b9] y8 y10 := by rw [← hy10]; exact (Mods.refl [b9] y8).setCell (p := ⟨b9, 0, none⟩) (by simp) _
      have hv10 := setOf (HN9.out) 0 (.pointer (some ⟨b8, 0, none⟩))
      rw [hy10] at hv10
      clear hy10 hc10_0 hf10_0
      have HBE : Hid (Below w3.heap.size w3 y10) := Lib.hid (HBE.out.trans (hm10.below (fun k hk => by have := HG9.out; have e := List.mem_singleton.1 hk; omega) HBE.out.size))
      have hSp := HSS.out _ HBE.out
      clear hHeld
      refine hK.out _ _ hSp (fun hHeld => ?_)
      clear hSp hK K
      try simp only [Act.put, List.setIfInBounds_toArray, List.set_cons_zero, List.set_cons_succ]
      have HN2 := Lib.hid ((hm10.block b2 (Array.getElem?_eq_some_iff.1 HN2.out).1 (fun h => by have e := List.mem_singleton.1 h; have := HNE2_9.out; omega)).trans HN2.out)
      have HN5 := Lib.hid ((hm10.block b5 (Array.getElem?_eq_some_iff.1 HN5.out).1 (fun h => by have e := List.mem_singleton.1 h; have := HNE5_9.out; omega)).trans HN5.out)
      have HN6 := Lib.hid ((hm10.block b6 (Array.getElem?_eq_some_iff.1 HN6.out).1 (fun h => by have e := List.mem_singleton.1 h; have := HNE6_9.out; omega)).trans HN6.out)
      have HN8 := Lib.hid ((hm10.block b8 (Array.getElem?_eq_some_iff.1 HN8.out).1 (fun h => by have e := List.mem_singleton.1 h; have := HNE8_9.out; omega)).trans HN8.out)
      simp only [List.setIfInBounds_toArray, List.set_cons_zero, List.set_cons_succ] at hv10
      have HN9 := Lib.hid hv10
      clear hv10 hm10
      refine wpAnyH_done (by kernel_rfl) ?_ _
      have HEND := Lib.hid hHeld.2
      have HSE := Lib.hid hHeld.1
      clear hHeld
      clear HSE HSS
      go_wp2_with fail
      go_meet
      exact ⟨_, b9, b8, b2, b5, b6, rfl, rfl, HEND.out, HG2.out, HN9.out, ⟨HN8.out, HN2.out, HN5.out, HNE2_5.out⟩⟩
    ·skip
     simp only [List.getElem_toArray, List.getElem_cons_zero, List.getElem_cons_succ]
     go_simp
     obtain ⟨b9, hw9⟩ : ∃ b, y5.heap.size = b := ⟨_, rfl⟩
     obtain ⟨y9, hy9⟩ : ∃ y, y5.alloc (.cells #[.pointer none] 323) = y := ⟨_, rfl⟩
     rw [hy9, hw9]
     have hx9 : Below y5.heap.size y5 y9 := by rw [← hy9]; exact balloc (Below.refl _ _) _
     have HN9 : Hid (y9.heap[b9]? = some (.cells #[.pointer none] 323 (0, 0))) := Lib.hid (by rw [← hy9, ← hw9]; exact heap_alloc_new _ _)
     have HG9 : Hid (w3.heap.size ≤ b9) := Lib.hid (by have := HBE.out.size; omega)
     have HNE2_9 : Hid (b2 ≠ b9) := Lib.hid (by have := (Array.getElem?_eq_some_iff.1 HN2.out).1; omega)
     have HNE5_9 : Hid (b5 ≠ b9) := Lib.hid (by have := (Array.getElem?_eq_some_iff.1 HN5.out).1; omega)
     clear hy9 hw9
     have HBE := Lib.hid (bthen HBE.out hx9)
     have hSp := HSS.out _ HBE.out
     clear hHeld
     refine hK.out _ _ hSp (fun hHeld => ?_)
     clear hSp hK K
     try simp only [Act.put, List.setIfInBounds_toArray, List.set_cons_zero, List.set_cons_succ]
     have HN2 := Lib.hid ((hx9.block b2 (Array.getElem?_eq_some_iff.1 HN2.out).1).trans HN2.out)
     have HN5 := Lib.hid ((hx9.block b5 (Array.getElem?_eq_some_iff.1 HN5.out).1).trans HN5.out)
     clear hx9
     refine wpAnyH_ready (rs := [6]) (by kernel_rfl) (by simp) ?_
     refine AllReadyH.cons rfl (fun K hK => ?_) (AllReadyH.nil)
     have hmm := @run_makeMap Tryz.prog
     simp only [List.getElem_toArray, List.getElem_cons_zero, List.getElem_cons_succ]
     go_simp
     clear hmm
     obtain ⟨b6, hw6⟩ : ∃ b, y9.heap.size = b := ⟨_, rfl⟩
     obtain ⟨y6, hy6⟩ : ∃ y, y9.alloc (.map #[] 0) = y := ⟨_, rfl⟩
     rw [hy6, hw6]
     have hx6 : Below y9.heap.size y9 y6 := by rw [← hy6]; exact balloc (Below.refl _ _) _
     have HN6 : Hid (y6.heap[b6]? = some (.map #[] 0)) := Lib.hid (by rw [← hy6, ← hw6]; exact heap_alloc_new _ _)
     have HG6 : Hid (w3.heap.size ≤ b6) := Lib.hid (by have := HBE.out.size; omega)
     have HNE2_6 : Hid (b2 ≠ b6) := Lib.hid (by have := (Array.getElem?_eq_some_iff.1 HN2.out).1; omega)
     have HNE5_6 : Hid (b5 ≠ b6) := Lib.hid (by have := (Array.getElem?_eq_some_iff.1 HN5.out).1; omega)
     have HNE6_9 : Hid (b6 ≠ b9) := Lib.hid (by have := (Array.getElem?_eq_some_iff.1 HN9.out).1; omega)
     clear hy6 hw6
     have HBE := Lib.hid (bthen HBE.out hx6)
     have hSp := HSS.out _ HBE.out
     clear hHeld
     refine hK.out _ _ hSp (fun hHeld => ?_)
     clear hSp hK K
     try simp only [Act.put, List.setIfInBounds_toArray, List.set_cons_zero, List.set_cons_succ]
     have HN2 := Lib.hid ((hx6.block b2 (Array.getElem?_eq_some_iff.1 HN2.out).1).trans HN2.out)
     have HN5 := Lib.hid ((hx6.block b5 (Array.getElem?_eq_some_iff.1 HN5.out).1).trans HN5.out)
     have HN9 := Lib.hid ((hx6.block b9 (Array.getElem?_eq_some_iff.1 HN9.out).1).trans HN9.out)
     clear hx6
     refine wpAnyH_take (i := 7) (v := .agg #[.slice (some ⟨b2, 0, none⟩) m m, .slice (some ⟨b5, 0, none⟩) k k, .map (some b6), .slice none 0 0]) rfl (by kernel_rfl) (by kernel_rfl) (by kernel_rfl) (fun _ _ _ h => h) (Or.inl ⟨by rfl, ?_⟩) (by assumption) ?_
     ·(intro w hSw; simp only [List.getElem_toArray, List.getElem_cons_zero, List.getElem_cons_succ]; (have hbu := nm_built b2 m b5 k b6; go_simp; first | done | with_reducible rfl))
     simp only [List.getElem_toArray, List.getElem_cons_zero, List.getElem_cons_succ, Act.put, List.setIfInBounds_toArray, List.set_cons_zero, List.set_cons_succ]
     refine wpAnyH_ready (rs := [8]) (by kernel_rfl) (by simp) ?_
     refine AllReadyH.cons rfl (fun K hK => ?_) (AllReadyH.nil)
     simp only [List.getElem_toArray, List.getElem_cons_zero, List.getElem_cons_succ]
     go_simp
     obtain ⟨b8, hw8⟩ : ∃ b, y6.heap.size = b := ⟨_, rfl⟩
     obtain ⟨y8, hy8⟩ : ∃ y, y6.alloc (.cells #[.slice (some ⟨b2, 0, none⟩) m m, .slice (some ⟨b5, 0, none⟩) k k, .map (some b6), .slice none 0 0] 327) = y := ⟨_, rfl⟩
     rw [hy8, hw8]
     have hx8 : Below y6.heap.size y6 y8 := by rw [← hy8]; exact balloc (Below.refl _ _) _
     have HN8 : Hid (y8.heap[b8]? = some (.cells #[.slice (some ⟨b2, 0, none⟩) m m, .slice (some ⟨b5, 0, none⟩) k k, .map (some b6), .slice none 0 0] 327 (0, 0))) := Lib.hid (by rw [← hy8, ← hw8]; exact heap_alloc_new _ _)
     have HG8 : Hid (w3.heap.size ≤ b8) := Lib.hid (by have := HBE.out.size; omega)
     have HNE2_8 : Hid (b2 ≠ b8) := Lib.hid (by have := (Array.getElem?_eq_some_iff.1 HN2.out).1; omega)
     have HNE5_8 : Hid (b5 ≠ b8) := Lib.hid (by have := (Array.getElem?_eq_some_iff.1 HN5.out).1; omega)
     have HNE8_9 : Hid (b8 ≠ b9) := Lib.hid (by have := (Array.getElem?_eq_some_iff.1 HN9.out).1; omega)
     have HNE6_8 : Hid (b6 ≠ b8) := Lib.hid (by have := (Array.getElem?_eq_some_iff.1 HN6.out).1; omega)
     clear hy8 hw8
     have HBE := Lib.hid (bthen HBE.out hx8)
     have hSp := HSS.out _ HBE.out
     clear hHeld
     refine hK.out _ _ hSp (fun hHeld => ?_)
     clear hSp hK K
     try simp only [Act.put, List.setIfInBounds_toArray, List.set_cons_zero, List.set_cons_succ]
     have HN2 := Lib.hid ((hx8.block b2 (Array.getElem?_eq_some_iff.1 HN2.out).1).trans HN2.out)
     have HN5 := Lib.hid ((hx8.block b5 (Array.getElem?_eq_some_iff.1 HN5.out).1).trans HN5.out)
     have HN9 := Lib.hid ((hx8.block b9 (Array.getElem?_eq_some_iff.1 HN9.out).1).trans HN9.out)
     have HN6 := Lib.hid ((hx8.block b6 (Array.getElem?_eq_some_iff.1 HN6.out).1).trans HN6.out)
     clear hx8
     refine wpAnyH_ready (rs := [10]) (by kernel_rfl) (by simp) ?_
     refine AllReadyH.cons rfl (fun K hK => ?_) (AllReadyH.nil)
     have hc10_0 := cellOf HN9.out 0 rfl
     have hf10_0 := frozenOf HN9.out 0
     simp only [List.getElem_toArray, List.getElem_cons_zero, List.getElem_cons_succ]
     go_simp
     obtain ⟨y10, hy10⟩ : ∃ y, (y8.setCell ⟨b9, 0, none⟩ (.pointer (some ⟨b8, 0, none⟩))) = y := ⟨_, rfl⟩
     rw [hy10]
     have hm10 : Mods [b9] y8 y10 := by rw [← hy10]; exact (Mods.refl [b9] y8).setCell (p := ⟨b9, 0, none⟩) (by simp) _
     have hv10 := setOf (HN9.out) 0 (.pointer (some ⟨b8, 0, none⟩))
     rw [hy10] at hv10
     clear hy10 hc10_0 hf10_0
     have HBE : Hid (Below w3.heap.size w3 y10) := Lib.hid (HBE.out.trans (hm10.below (fun k hk => by have := HG9.out; have e := List.mem_singleton.1 hk; omega) HBE.out.size))
     have hSp := HSS.out _ HBE.out
     clear hHeld
     refine hK.out _ _ hSp (fun hHeld => ?_)
     clear hSp hK K
     try simp only [Act.put, List.setIfInBounds_toArray, List.set_cons_zero, List.set_cons_succ]
     have HN2 := Lib.hid ((hm10.block b2 (Array.getElem?_eq_some_iff.1 HN2.out).1 (fun h => by have e := List.mem_singleton.1 h; have := HNE2_9.out; omega)).trans HN2.out)
     have HN5 := Lib.hid ((hm10.block b5 (Array.getElem?_eq_some_iff.1 HN5.out).1 (fun h => by have e := List.mem_singleton.1 h; have := HNE5_9.out; omega)).trans HN5.out)
     have HN6 := Lib.hid ((hm10.block b6 (Array.getElem?_eq_some_iff.1 HN6.out).1 (fun h => by have e := List.mem_singleton.1 h; have := HNE6_9.out; omega)).trans HN6.out)
     have HN8 := Lib.hid ((hm10.block b8 (Array.getElem?_eq_some_iff.1 HN8.out).1 (fun h => by have e := List.mem_singleton.1 h; have := HNE8_9.out; omega)).trans HN8.out)
     simp only [List.setIfInBounds_toArray, List.set_cons_zero, List.set_cons_succ] at hv10
     have HN9 := Lib.hid hv10
     clear hv10 hm10
     refine wpAnyH_done (by kernel_rfl) ?_ _
     have HEND := Lib.hid hHeld.2
     have HSE := Lib.hid hHeld.1
     clear hHeld
     clear HSE HSS
     go_wp2_with fail
     go_meet
     exact ⟨_, b9, b8, b2, b5, b6, rfl, rfl, HEND.out, HG2.out, HN9.out, ⟨HN8.out, HN2.out, HN5.out, HNE2_5.out⟩⟩
   ·skip
    have hmm := @run_makeMap Tryz.prog
    simp only [List.getElem_toArray, List.getElem_cons_zero, List.getElem_cons_succ]
    go_simp
    clear hmm
    obtain ⟨b6, hw6⟩ : ∃ b, y2.heap.size = b := ⟨_, rfl⟩
    obtain ⟨y6, hy6⟩ : ∃ y, y2.alloc (.map #[] 0) = y := ⟨_, rfl⟩
    rw [hy6, hw6]
    have hx6 : Below y2.heap.size y2 y6 := by rw [← hy6]; exact balloc (Below.refl _ _) _
    have HN6 : Hid (y6.heap[b6]? = some (.map #[] 0)) := Lib.hid (by rw [← hy6, ← hw6]; exact heap_alloc_new _ _)
    have HG6 : Hid (w3.heap.size ≤ b6) := Lib.hid (by have := HBE.out.size; omega)
    have HNE2_6 : Hid (b2 ≠ b6) := Lib.hid (by have := (Array.getElem?_eq_some_iff.1 HN2.out).1; omega)
    clear hy6 hw6
    have HBE := Lib.hid (bthen HBE.out hx6)
    have hSp := HSS.out _ HBE.out
    clear hHeld
    refine hK.out _ _ hSp (fun hHeld => ?_)
    clear hSp hK K
    try simp only [Act.put, List.setIfInBounds_toArray, List.set_cons_zero, List.set_cons_succ]
    have HN2 := Lib.hid ((hx6.block b2 (Array.getElem?_eq_some_iff.1 HN2.out).1).trans HN2.out)
    clear hx6
    refine wpAnyH_ready (rs := [5, 9]) (by kernel_rfl) (by simp) ?_
    refine AllReadyH.cons rfl (fun K hK => ?_) (AllReadyH.cons rfl (fun K hK => ?_) (AllReadyH.nil))
    ·skip
     have hmm := run_mkI y6 k (by omega)
     simp only [List.getElem_toArray, List.getElem_cons_zero, List.getElem_cons_succ]
     go_simp
     clear hmm
     obtain ⟨b5, hw5⟩ : ∃ b, y6.heap.size = b := ⟨_, rfl⟩
     obtain ⟨y5, hy5⟩ : ∃ y, y6.alloc (.cells (iV (List.replicate k 0)).toArray 3) = y := ⟨_, rfl⟩
     rw [hy5, hw5]
     have hx5 : Below y6.heap.size y6 y5 := by rw [← hy5]; exact balloc (Below.refl _ _) _
     have HN5 : Hid (y5.heap[b5]? = some (.cells (iV (List.replicate k 0)).toArray 3 (0, 0))) := Lib.hid (by rw [← hy5, ← hw5]; exact heap_alloc_new _ _)
     have HG5 : Hid (w3.heap.size ≤ b5) := Lib.hid (by have := HBE.out.size; omega)
     have HNE2_5 : Hid (b2 ≠ b5) := Lib.hid (by have := (Array.getElem?_eq_some_iff.1 HN2.out).1; omega)
     have HNE5_6 : Hid (b5 ≠ b6) := Lib.hid (by have := (Array.getElem?_eq_some_iff.1 HN6.out).1; omega)
     clear hy5 hw5
     have HBE := Lib.hid (bthen HBE.out hx5)
     have hSp := HSS.out _ HBE.out
     clear hHeld
     refine hK.out _ _ hSp (fun hHeld => ?_)
     clear hSp hK K
     try simp only [Act.put, List.setIfInBounds_toArray, List.set_cons_zero, List.set_cons_succ]
     have HN2 := Lib.hid ((hx5.block b2 (Array.getElem?_eq_some_iff.1 HN2.out).1).trans HN2.out)
     have HN6 := Lib.hid ((hx5.block b6 (Array.getElem?_eq_some_iff.1 HN6.out).1).trans HN6.out)
     clear hx5
     refine wpAnyH_take (i := 7) (v := .agg #[.slice (some ⟨b2, 0, none⟩) m m, .slice (some ⟨b5, 0, none⟩) k k, .map (some b6), .slice none 0 0]) rfl (by kernel_rfl) (by kernel_rfl) (by kernel_rfl) (fun _ _ _ h => h) (Or.inl ⟨by rfl, ?_⟩) (by assumption) ?_
     ·(intro w hSw; simp only [List.getElem_toArray, List.getElem_cons_zero, List.getElem_cons_succ]; (have hbu := nm_built b2 m b5 k b6; go_simp; first | done | with_reducible rfl))
     simp only [List.getElem_toArray, List.getElem_cons_zero, List.getElem_cons_succ, Act.put, List.setIfInBounds_toArray, List.set_cons_zero, List.set_cons_succ]
     refine wpAnyH_ready (rs := [8, 9]) (by kernel_rfl) (by simp) ?_
     refine AllReadyH.cons rfl (fun K hK => ?_) (AllReadyH.cons rfl (fun K hK => ?_) (AllReadyH.nil))
     ·skip
      simp only [List.getElem_toArray, List.getElem_cons_zero, List.getElem_cons_succ]
      go_simp
      obtain ⟨b8, hw8⟩ : ∃ b, y5.heap.size = b := ⟨_, rfl⟩
      obtain ⟨y8, hy8⟩ : ∃ y, y5.alloc (.cells #[.slice (some ⟨b2, 0, none⟩) m m, .slice (some ⟨b5, 0, none⟩) k k, .map (some b6), .slice none 0 0] 327) = y := ⟨_, rfl⟩
      rw [hy8, hw8]
      have hx8 : Below y5.heap.size y5 y8 := by rw [← hy8]; exact balloc (Below.refl _ _) _
      have HN8 : Hid (y8.heap[b8]? = some (.cells #[.slice (some ⟨b2, 0, none⟩) m m, .slice (some ⟨b5, 0, none⟩) k k, .map (some b6), .slice none 0 0] 327 (0, 0))) := Lib.hid (by rw [← hy8, ← hw8]; exact heap_alloc_new _ _)
      have HG8 : Hid (w3.heap.size ≤ b8) := Lib.hid (by have := HBE.out.size; omega)
      have HNE2_8 : Hid (b2 ≠ b8) := Lib.hid (by have := (Array.getElem?_eq_some_iff.1 HN2.out).1; omega)
      have HNE6_8 : Hid (b6 ≠ b8) := Lib.hid (by have := (Array.getElem?_eq_some_iff.1 HN6.out).1; omega)
      have HNE5_8 : Hid (b5 ≠ b8) := Lib.hid (by have := (Array.getElem?_eq_some_iff.1 HN5.out).1; omega)
      clear hy8 hw8
      have HBE := Lib.hid (bthen HBE.out hx8)
      have hSp := HSS.out _ HBE.out
      clear hHeld
      refine hK.out _ _ hSp (fun hHeld => ?_)
      clear hSp hK K
      try simp only [Act.put, List.setIfInBounds_toArray, List.set_cons_zero, List.set_cons_succ]
      have HN2 := Lib.hid ((hx8.block b2 (Array.getElem?_eq_some_iff.1 HN2.out).1).trans HN2.out)
      have HN6 := Lib.hid ((hx8.block b6 (Array.getElem?_eq_some_iff.1 HN6.out).1).trans HN6.out)
      have HN5 := Lib.hid ((hx8.block b5 (Array.getElem?_eq_some_iff.1 HN5.out).1).trans HN5.out)
      clear hx8
      refine wpAnyH_ready (rs := [9]) (by kernel_rfl) (by simp) ?_
      refine AllReadyH.cons rfl (fun K hK => ?_) (AllReadyH.nil)
      simp only [List.getElem_toArray, List.getElem_cons_zero, List.getElem_cons_succ]
      go_simp
      obtain ⟨b9, hw9⟩ : ∃ b, y8.heap.size = b := ⟨_, rfl⟩
      obtain ⟨y9, hy9⟩ : ∃ y, y8.alloc (.cells #[.pointer none] 323) = y := ⟨_, rfl⟩
      rw [hy9, hw9]
      have hx9 : Below y8.heap.size y8 y9 := by rw [← hy9]; exact balloc (Below.refl _ _) _
      have HN9 : Hid (y9.heap[b9]? = some (.cells #[.pointer none] 323 (0, 0))) := Lib.hid (by rw [← hy9, ← hw9]; exact heap_alloc_new _ _)
      have HG9 : Hid (w3.heap.size ≤ b9) := Lib.hid (by have := HBE.out.size; omega)
      have HNE2_9 : Hid (b2 ≠ b9) := Lib.hid (by have := (Array.getElem?_eq_some_iff.1 HN2.out).1; omega)
      have HNE6_9 : Hid (b6 ≠ b9) := Lib.hid (by have := (Array.getElem?_eq_some_iff.1 HN6.out).1; omega)
      have HNE5_9 : Hid (b5 ≠ b9) := Lib.hid (by have := (Array.getElem?_eq_some_iff.1 HN5.out).1; omega)
      have HNE8_9 : Hid (b8 ≠ b9) := Lib.hid (by have := (Array.getElem?_eq_some_iff.1 HN8.out).1; omega)
      clear hy9 hw9
      have HBE := Lib.hid (bthen HBE.out hx9)
      have hSp := HSS.out _ HBE.out
      clear hHeld
      refine hK.out _ _ hSp (fun hHeld => ?_)
      clear hSp hK K
      try simp only [Act.put, List.setIfInBounds_toArray, List.set_cons_zero, List.set_cons_succ]
      have HN2 := Lib.hid ((hx9.block b2 (Array.getElem?_eq_some_iff.1 HN2.out).1).trans HN2.out)
      have HN6 := Lib.hid ((hx9.block b6 (Array.getElem?_eq_some_iff.1 HN6.out).1).trans HN6.out)
      have HN5 := Lib.hid ((hx9.block b5 (Array.getElem?_eq_some_iff.1 HN5.out).1).trans HN5.out)
      have HN8 := Lib.hid ((hx9.block b8 (Array.getElem?_eq_some_iff.1 HN8.out).1).trans HN8.out)
      clear hx9
      refine wpAnyH_ready (rs := [10]) (by kernel_rfl) (by simp) ?_
      refine AllReadyH.cons rfl (fun K hK => ?_) (AllReadyH.nil)
      have hc10_0 := cellOf HN9.out 0 rfl
      have hf10_0 := frozenOf HN9.out 0
      simp only [List.getElem_toArray, List.getElem_cons_zero, List.getElem_cons_succ]
      go_simp
      obtain ⟨y10, hy10⟩ : ∃ y, (y9.setCell ⟨b9, 0, none⟩ (.pointer (some ⟨b8, 0, none⟩))) = y := ⟨_, rfl⟩
      rw [hy10]
      have hm10 : Mods [b9] y9 y10 := by rw [← hy10]; exact (Mods.refl [b9] y9).setCell (p := ⟨b9, 0, none⟩) (by simp) _
      have hv10 := setOf (HN9.out) 0 (.pointer (some ⟨b8, 0, none⟩))
      rw [hy10] at hv10
      clear hy10 hc10_0 hf10_0
      have HBE : Hid (Below w3.heap.size w3 y10) := Lib.hid (HBE.out.trans (hm10.below (fun k hk => by have := HG9.out; have e := List.mem_singleton.1 hk; omega) HBE.out.size))
      have hSp := HSS.out _ HBE.out
      clear hHeld
      refine hK.out _ _ hSp (fun hHeld => ?_)
      clear hSp hK K
      try simp only [Act.put, List.setIfInBounds_toArray, List.set_cons_zero, List.set_cons_succ]
      have HN2 := Lib.hid ((hm10.block b2 (Array.getElem?_eq_some_iff.1 HN2.out).1 (fun h => by have e := List.mem_singleton.1 h; have := HNE2_9.out; omega)).trans HN2.out)
      have HN6 := Lib.hid ((hm10.block b6 (Array.getElem?_eq_some_iff.1 HN6.out).1 (fun h => by have e := List.mem_singleton.1 h; have := HNE6_9.out; omega)).trans HN6.out)
      have HN5 := Lib.hid ((hm10.block b5 (Array.getElem?_eq_some_iff.1 HN5.out).1 (fun h => by have e := List.mem_singleton.1 h; have := HNE5_9.out; omega)).trans HN5.out)
      have HN8 := Lib.hid ((hm10.block b8 (Array.getElem?_eq_some_iff.1 HN8.out).1 (fun h => by have e := List.mem_singleton.1 h; have := HNE8_9.out; omega)).trans HN8.out)
      simp only [List.setIfInBounds_toArray, List.set_cons_zero, List.set_cons_succ] at hv10
      have HN9 := Lib.hid hv10
      clear hv10 hm10
      refine wpAnyH_done (by kernel_rfl) ?_ _
      have HEND := Lib.hid hHeld.2
      have HSE := Lib.hid hHeld.1
      clear hHeld
      clear HSE HSS
      go_wp2_with fail
      go_meet
      exact ⟨_, b9, b8, b2, b5, b6, rfl, rfl, HEND.out, HG2.out, HN9.out, ⟨HN8.out, HN2.out, HN5.out, HNE2_5.out⟩⟩
     ·skip
      simp only [List.getElem_toArray, List.getElem_cons_zero, List.getElem_cons_succ]
      go_simp
      obtain ⟨b9, hw9⟩ : ∃ b, y5.heap.size = b := ⟨_, rfl⟩
      obtain ⟨y9, hy9⟩ : ∃ y, y5.alloc (.cells #[.pointer none] 323) = y := ⟨_, rfl⟩
      rw [hy9, hw9]
      have hx9 : Below y5.heap.size y5 y9 := by rw [← hy9]; exact balloc (Below.refl _ _) _
      have HN9 : Hid (y9.heap[b9]? = some (.cells #[.pointer none] 323 (0, 0))) := Lib.hid (by rw [← hy9, ← hw9]; exact heap_alloc_new _ _)
      have HG9 : Hid (w3.heap.size ≤ b9) := Lib.hid (by have := HBE.out.size; omega)
      have HNE2_9 : Hid (b2 ≠ b9) := Lib.hid (by have := (Array.getElem?_eq_some_iff.1 HN2.out).1; omega)
      have HNE6_9 : Hid (b6 ≠ b9) := Lib.hid (by have := (Array.getElem?_eq_some_iff.1 HN6.out).1; omega)
      have HNE5_9 : Hid (b5 ≠ b9) := Lib.hid (by have := (Array.getElem?_eq_some_iff.1 HN5.out).1; omega)
      clear hy9 hw9
      have HBE := Lib.hid (bthen HBE.out hx9)
      have hSp := HSS.out _ HBE.out
      clear hHeld
      refine hK.out _ _ hSp (fun hHeld => ?_)
      clear hSp hK K
      try simp only [Act.put, List.setIfInBounds_toArray, List.set_cons_zero, List.set_cons_succ]
      have HN2 := Lib.hid ((hx9.block b2 (Array.getElem?_eq_some_iff.1 HN2.out).1).trans HN2.out)
      have HN6 := Lib.hid ((hx9.block b6 (Array.getElem?_eq_some_iff.1 HN6.out).1).trans HN6.out)
      have HN5 := Lib.hid ((hx9.block b5 (Array.getElem?_eq_some_iff.1 HN5.out).1).trans HN5.out)
      clear hx9
      refine wpAnyH_ready (rs := [8]) (by kernel_rfl) (by simp) ?_
      refine AllReadyH.cons rfl (fun K hK => ?_) (AllReadyH.nil)
      simp only [List.getElem_toArray, List.getElem_cons_zero, List.getElem_cons_succ]
      go_simp
      obtain ⟨b8, hw8⟩ : ∃ b, y9.heap.size = b := ⟨_, rfl⟩
      obtain ⟨y8, hy8⟩ : ∃ y, y9.alloc (.cells #[.slice (some ⟨b2, 0, none⟩) m m, .slice (some ⟨b5, 0, none⟩) k k, .map (some b6), .slice none 0 0] 327) = y := ⟨_, rfl⟩
      rw [hy8, hw8]
      have hx8 : Below y9.heap.size y9 y8 := by rw [← hy8]; exact balloc (Below.refl _ _) _
      have HN8 : Hid (y8.heap[b8]? = some (.cells #[.slice (some ⟨b2, 0, none⟩) m m, .slice (some ⟨b5, 0, none⟩) k k, .map (some b6), .slice none 0 0] 327 (0, 0))) := Lib.hid (by rw [← hy8, ← hw8]; exact heap_alloc_new _ _)
      have HG8 : Hid (w3.heap.size ≤ b8) := Lib.hid (by have := HBE.out.size; omega)
      have HNE2_8 : Hid (b2 ≠ b8) := Lib.hid (by have := (Array.getElem?_eq_some_iff.1 HN2.out).1; omega)
      have HNE6_8 : Hid (b6 ≠ b8) := Lib.hid (by have := (Array.getElem?_eq_some_iff.1 HN6.out).1; omega)
      have HNE5_8 : Hid (b5 ≠ b8) := Lib.hid (by have := (Array.getElem?_eq_some_iff.1 HN5.out).1; omega)
      have HNE8_9 : Hid (b8 ≠ b9) := Lib.hid (by have := (Array.getElem?_eq_some_iff.1 HN9.out).1; omega)
      clear hy8 hw8
      have HBE := Lib.hid (bthen HBE.out hx8)
      have hSp := HSS.out _ HBE.out
      clear hHeld
      refine hK.out _ _ hSp (fun hHeld => ?_)
      clear hSp hK K
      try simp only [Act.put, List.setIfInBounds_toArray, List.set_cons_zero, List.set_cons_succ]
      have HN2 := Lib.hid ((hx8.block b2 (Array.getElem?_eq_some_iff.1 HN2.out).1).trans HN2.out)
      have HN6 := Lib.hid ((hx8.block b6 (Array.getElem?_eq_some_iff.1 HN6.out).1).trans HN6.out)
      have HN5 := Lib.hid ((hx8.block b5 (Array.getElem?_eq_some_iff.1 HN5.out).1).trans HN5.out)
      have HN9 := Lib.hid ((hx8.block b9 (Array.getElem?_eq_some_iff.1 HN9.out).1).trans HN9.out)
      clear hx8
      refine wpAnyH_ready (rs := [10]) (by kernel_rfl) (by simp) ?_
      refine AllReadyH.cons rfl (fun K hK => ?_) (AllReadyH.nil)
      have hc10_0 := cellOf HN9.out 0 rfl
      have hf10_0 := frozenOf HN9.out 0
      simp only [List.getElem_toArray, List.getElem_cons_zero, List.getElem_cons_succ]
      go_simp
      obtain ⟨y10, hy10⟩ : ∃ y, (y8.setCell ⟨b9, 0, none⟩ (.pointer (some ⟨b8, 0, none⟩))) = y := ⟨_, rfl⟩
      rw [hy10]
      have hm10 : Mods [b9] y8 y10 := by rw [← hy10]; exact (Mods.refl [b9] y8).setCell (p := ⟨b9, 0, none⟩) (by simp) _
      have hv10 := setOf (HN9.out) 0 (.pointer (some ⟨b8, 0, none⟩))
      rw [hy10] at hv10
      clear hy10 hc10_0 hf10_0
      have HBE : Hid (Below w3.heap.size w3 y10) := Lib.hid (HBE.out.trans (hm10.below (fun k hk => by have := HG9.out; have e := List.mem_singleton.1 hk; omega) HBE.out.size))
      have hSp := HSS.out _ HBE.out
      clear hHeld
      refine hK.out _ _ hSp (fun hHeld => ?_)
      clear hSp hK K
      try simp only [Act.put, List.setIfInBounds_toArray, List.set_cons_zero, List.set_cons_succ]
      have HN2 := Lib.hid ((hm10.block b2 (Array.getElem?_eq_some_iff.1 HN2.out).1 (fun h => by have e := List.mem_singleton.1 h; have := HNE2_9.out; omega)).trans HN2.out)
      have HN6 := Lib.hid ((hm10.block b6 (Array.getElem?_eq_some_iff.1 HN6.out).1 (fun h => by have e := List.mem_singleton.1 h; have := HNE6_9.out; omega)).trans HN6.out)
      have HN5 := Lib.hid ((hm10.block b5 (Array.getElem?_eq_some_iff.1 HN5.out).1 (fun h => by have e := List.mem_singleton.1 h; have := HNE5_9.out; omega)).trans HN5.out)
      have HN8 := Lib.hid ((hm10.block b8 (Array.getElem?_eq_some_iff.1 HN8.out).1 (fun h => by have e := List.mem_singleton.1 h; have := HNE8_9.out; omega)).trans HN8.out)
      simp only [List.setIfInBounds_toArray, List.set_cons_zero, List.set_cons_succ] at hv10
      have HN9 := Lib.hid hv10
      clear hv10 hm10
      refine wpAnyH_done (by kernel_rfl) ?_ _
      have HEND := Lib.hid hHeld.2
      have HSE := Lib.hid hHeld.1
      clear hHeld
      clear HSE HSS
      go_wp2_with fail
      go_meet
      exact ⟨_, b9, b8, b2, b5, b6, rfl, rfl, HEND.out, HG2.out, HN9.out, ⟨HN8.out, HN2.out, HN5.out, HNE2_5.out⟩⟩
    ·skip
     simp only [List.getElem_toArray, List.getElem_cons_zero, List.getElem_cons_succ]
     go_simp
     obtain ⟨b9, hw9⟩ : ∃ b, y6.heap.size = b := ⟨_, rfl⟩
     obtain ⟨y9, hy9⟩ : ∃ y, y6.alloc (.cells #[.pointer none] 323) = y := ⟨_, rfl⟩
     rw [hy9, hw9]
     have hx9 : Below y6.heap.size y6 y9 := by rw [← hy9]; exact balloc (Below.refl _ _) _
     have HN9 : Hid (y9.heap[b9]? = some (.cells #[.pointer none] 323 (0, 0))) := Lib.hid (by rw [← hy9, ← hw9]; exact heap_alloc_new _ _)
     have HG9 : Hid (w3.heap.size ≤ b9) := Lib.hid (by have := HBE.out.size; omega)
     have HNE2_9 : Hid (b2 ≠ b9) := Lib.hid (by have := (Array.getElem?_eq_some_iff.1 HN2.out).1; omega)
     have HNE6_9 : Hid (b6 ≠ b9) := Lib.hid (by have := (Array.getElem?_eq_some_iff.1 HN6.out).1; omega)
     clear hy9 hw9
     have HBE := Lib.hid (bthen HBE.out hx9)
     have hSp := HSS.out _ HBE.out
     clear hHeld
     refine hK.out _ _ hSp (fun hHeld => ?_)
     clear hSp hK K
     try simp only [Act.put, List.setIfInBounds_toArray, List.set_cons_zero, List.set_cons_succ]
     have HN2 := Lib.hid ((hx9.block b2 (Array.getElem?_eq_some_iff.1 HN2.out).1).trans HN2.out)
     have HN6 := Lib.hid ((hx9.block b6 (Array.getElem?_eq_some_iff.1 HN6.out).1).trans HN6.out)
     clear hx9
     refine wpAnyH_ready (rs := [5]) (by kernel_rfl) (by simp) ?_
     refine AllReadyH.cons rfl (fun K hK => ?_) (AllReadyH.nil)
     have hmm := run_mkI y9 k (by omega)
     simp only [List.getElem_toArray, List.getElem_cons_zero, List.getElem_cons_succ]
     go_simp
     clear hmm
     obtain ⟨b5, hw5⟩ : ∃ b, y9.heap.size = b := ⟨_, rfl⟩
     obtain ⟨y5, hy5⟩ : ∃ y, y9.alloc (.cells (iV (List.replicate k 0)).toArray 3) = y := ⟨_, rfl⟩
     rw [hy5, hw5]
     have hx5 : Below y9.heap.size y9 y5 := by rw [← hy5]; exact balloc (Below.refl _ _) _
     have HN5 : Hid (y5.heap[b5]? = some (.cells (iV (List.replicate k 0)).toArray 3 (0, 0))) := Lib.hid (by rw [← hy5, ← hw5]; exact heap_alloc_new _ _)
     have HG5 : Hid (w3.heap.size ≤ b5) := Lib.hid (by have := HBE.out.size; omega)
     have HNE2_5 : Hid (b2 ≠ b5) := Lib.hid (by have := (Array.getElem?_eq_some_iff.1 HN2.out).1; omega)
     have HNE5_6 : Hid (b5 ≠ b6) := Lib.hid (by have := (Array.getElem?_eq_some_iff.1 HN6.out).1; omega)
     have HNE5_9 : Hid (b5 ≠ b9) := Lib.hid (by have := (Array.getElem?_eq_some_iff.1 HN9.out).1; omega)
     clear hy5 hw5
     have HBE := Lib.hid (bthen HBE.out hx5)
     have hSp := HSS.out _ HBE.out
     clear hHeld
     refine hK.out _ _ hSp (fun hHeld => ?_)
     clear hSp hK K
     try simp only [Act.put, List.setIfInBounds_toArray, List.set_cons_zero, List.set_cons_succ]
     have HN2 := Lib.hid ((hx5.block b2 (Array.getElem?_eq_some_iff.1 HN2.out).1).trans HN2.out)
     have HN6 := Lib.hid ((hx5.block b6 (Array.getElem?_eq_some_iff.1 HN6.out).1).trans HN6.out)
     have HN9 := Lib.hid ((hx5.block b9 (Array.getElem?_eq_some_iff.1 HN9.out).1).trans HN9.out)
     clear hx5
     refine wpAnyH_take (i := 7) (v := .agg #[.slice (some ⟨b2, 0, none⟩) m m, .slice (some ⟨b5, 0, none⟩) k k, .map (some b6), .slice none 0 0]) rfl (by kernel_rfl) (by kernel_rfl) (by kernel_rfl) (fun _ _ _ h => h) (Or.inl ⟨by rfl, ?_⟩) (by assumption) ?_
     ·(intro w hSw; simp only [List.getElem_toArray, List.getElem_cons_zero, List.getElem_cons_succ]; (have hbu := nm_built b2 m b5 k b6; go_simp; first | done | with_reducible rfl))
     simp only [List.getElem_toArray, List.getElem_cons_zero, List.getElem_cons_succ, Act.put, List.setIfInBounds_toArray, List.set_cons_zero, List.set_cons_succ]
     refine wpAnyH_ready (rs := [8]) (by kernel_rfl) (by simp) ?_
     refine AllReadyH.cons rfl (fun K hK => ?_) (AllReadyH.nil)
     simp only [List.getElem_toArray, List.getElem_cons_zero, List.getElem_cons_succ]
     go_simp
     obtain ⟨b8, hw8⟩ : ∃ b, y5.heap.size = b := ⟨_, rfl⟩
     obtain ⟨y8, hy8⟩ : ∃ y, y5.alloc (.cells #[.slice (some ⟨b2, 0, none⟩) m m, .slice (some ⟨b5, 0, none⟩) k k, .map (some b6), .slice none 0 0] 327) = y := ⟨_, rfl⟩
     rw [hy8, hw8]
     have hx8 : Below y5.heap.size y5 y8 := by rw [← hy8]; exact balloc (Below.refl _ _) _
     have HN8 : Hid (y8.heap[b8]? = some (.cells #[.slice (some ⟨b2, 0, none⟩) m m, .slice (some ⟨b5, 0, none⟩) k k, .map (some b6), .slice none 0 0] 327 (0, 0))) := Lib.hid (by rw [← hy8, ← hw8]; exact heap_alloc_new _ _)
     have HG8 : Hid (w3.heap.size ≤ b8) := Lib.hid (by have := HBE.out.size; omega)
     have HNE2_8 : Hid (b2 ≠ b8) := Lib.hid (by have := (Array.getElem?_eq_some_iff.1 HN2.out).1; omega)
     have HNE6_8 : Hid (b6 ≠ b8) := Lib.hid (by have := (Array.getElem?_eq_some_iff.1 HN6.out).1; omega)
     have HNE8_9 : Hid (b8 ≠ b9) := Lib.hid (by have := (Array.getElem?_eq_some_iff.1 HN9.out).1; omega)
     have HNE5_8 : Hid (b5 ≠ b8) := Lib.hid (by have := (Array.getElem?_eq_some_iff.1 HN5.out).1; omega)
     clear hy8 hw8
     have HBE := Lib.hid (bthen HBE.out hx8)
     have hSp := HSS.out _ HBE.out
     clear hHeld
     refine hK.out _ _ hSp (fun hHeld => ?_)
     clear hSp hK K
     try simp only [Act.put, List.setIfInBounds_toArray, List.set_cons_zero, List.set_cons_succ]
     have HN2 := Lib.hid ((hx8.block b2 (Array.getElem?_eq_some_iff.1 HN2.out).1).trans HN2.out)
     have HN6 := Lib.hid ((hx8.block b6 (Array.getElem?_eq_some_iff.1 HN6.out).1).trans HN6.out)
     have HN9 := Lib.hid ((hx8.block b9 (Array.getElem?_eq_some_iff.1 HN9.out).1).trans HN9.out)
     have HN5 := Lib.hid ((hx8.block b5 (Array.getElem?_eq_some_iff.1 HN5.out).1).trans HN5.out)
     clear hx8
     refine wpAnyH_ready (rs := [10]) (by kernel_rfl) (by simp) ?_
     refine AllReadyH.cons rfl (fun K hK => ?_) (AllReadyH.nil)
     have hc10_0 := cellOf HN9.out 0 rfl
     have hf10_0 := frozenOf HN9.out 0
     simp only [List.getElem_toArray, List.getElem_cons_zero, List.getElem_cons_succ]
     go_simp
     obtain ⟨y10, hy10⟩ : ∃ y, (y8.setCell ⟨b9, 0, none⟩ (.pointer (some ⟨b8, 0, none⟩))) = y := ⟨_, rfl⟩
     rw [hy10]
     have hm10 : Mods [b9] y8 y10 := by rw [← hy10]; exact (Mods.refl [b9] y8).setCell (p := ⟨b9, 0, none⟩) (by simp) _
     have hv10 := setOf (HN9.out) 0 (.pointer (some ⟨b8, 0, none⟩))
     rw [hy10] at hv10
     clear hy10 hc10_0 hf10_0
     have HBE : Hid (Below w3.heap.size w3 y10) := Lib.hid (HBE.out.trans (hm10.below (fun k hk => by have := HG9.out; have e := List.mem_singleton.1 hk; omega) HBE.out.size))
     have hSp := HSS.out _ HBE.out
     clear hHeld
     refine hK.out _ _ hSp (fun hHeld => ?_)
     clear hSp hK K
     try simp only [Act.put, List.setIfInBounds_toArray, List.set_cons_zero, List.set_cons_succ]
     have HN2 := Lib.hid ((hm10.block b2 (Array.getElem?_eq_some_iff.1 HN2.out).1 (fun h => by have e := List.mem_singleton.1 h; have := HNE2_9.out; omega)).trans HN2.out)
     have HN6 := Lib.hid ((hm10.block b6 (Array.getElem?_eq_some_iff.1 HN6.out).1 (fun h => by have e := List.mem_singleton.1 h; have := HNE6_9.out; omega)).trans HN6.out)
     have HN5 := Lib.hid ((hm10.block b5 (Array.getElem?_eq_some_iff.1 HN5.out).1 (fun h => by have e := List.mem_singleton.1 h; have := HNE5_9.out; omega)).trans HN5.out)
     have HN8 := Lib.hid ((hm10.block b8 (Array.getElem?_eq_some_iff.1 HN8.out).1 (fun h => by have e := List.mem_singleton.1 h; have := HNE8_9.out; omega)).trans HN8.out)
     simp only [List.setIfInBounds_toArray, List.set_cons_zero, List.set_cons_succ] at hv10
     have HN9 := Lib.hid hv10
     clear hv10 hm10
     refine wpAnyH_done (by kernel_rfl) ?_ _
     have HEND := Lib.hid hHeld.2
     have HSE := Lib.hid hHeld.1
     clear hHeld
     clear HSE HSS
     go_wp2_with fail
     go_meet
     exact ⟨_, b9, b8, b2, b5, b6, rfl, rfl, HEND.out, HG2.out, HN9.out, ⟨HN8.out, HN2.out, HN5.out, HNE2_5.out⟩⟩
   ·skip
    simp only [List.getElem_toArray, List.getElem_cons_zero, List.getElem_cons_succ]
    go_simp
    obtain ⟨b9, hw9⟩ : ∃ b, y2.heap.size = b := ⟨_, rfl⟩
    obtain ⟨y9, hy9⟩ : ∃ y, y2.alloc (.cells #[.pointer none] 323) = y := ⟨_, rfl⟩
    rw [hy9, hw9]
    have hx9 : Below y2.heap.size y2 y9 := by rw [← hy9]; exact balloc (Below.refl _ _) _
    have HN9 : Hid (y9.heap[b9]? = some (.cells #[.pointer none] 323 (0, 0))) := Lib.hid (by rw [← hy9, ← hw9]; exact heap_alloc_new _ _)
    have HG9 : Hid (w3.heap.size ≤ b9) := Lib.hid (by have := HBE.out.size; omega)
    have HNE2_9 : Hid (b2 ≠ b9) := Lib.hid (by have := (Array.getElem?_eq_some_iff.1 HN2.out).1; omega)
    clear hy9 hw9
    have HBE := Lib.hid (bthen HBE.out hx9)
    have hSp := HSS.out _ HBE.out
    clear hHeld
    refine hK.out _ _ hSp (fun hHeld => ?_)
    clear hSp hK K
    try simp only [Act.put, List.setIfInBounds_toArray, List.set_cons_zero, List.set_cons_succ]
    have HN2 := Lib.hid ((hx9.block b2 (Array.getElem?_eq_some_iff.1 HN2.out).1).trans HN2.out)
    clear hx9
    refine wpAnyH_ready (rs := [5, 6]) (by kernel_rfl) (by simp) ?_
    refine AllReadyH.cons rfl (fun K hK => ?_) (AllReadyH.cons rfl (fun K hK => ?_) (AllReadyH.nil))
    ·skip
     have hmm := run_mkI y9 k (by omega)
     simp only [List.getElem_toArray, List.getElem_cons_zero, List.getElem_cons_succ]
     go_simp
     clear hmm
     obtain ⟨b5, hw5⟩ : ∃ b, y9.heap.size = b := ⟨_, rfl⟩
     obtain ⟨y5, hy5⟩ : ∃ y, y9.alloc (.cells (iV (List.replicate k 0)).toArray 3) = y := ⟨_, rfl⟩
     rw [hy5, hw5]
     have hx5 : Below y9.heap.size y9 y5 := by rw [← hy5]; exact balloc (Below.refl _ _) _
     have HN5 : Hid (y5.heap[b5]? = some (.cells (iV (List.replicate k 0)).toArray 3 (0, 0))) := Lib.hid (by rw [← hy5, ← hw5]; exact heap_alloc_new _ _)
     have HG5 : Hid (w3.heap.size ≤ b5) := Lib.hid (by have := HBE.out.size; omega)
     have HNE2_5 : Hid (b2 ≠ b5) := Lib.hid (by have := (Array.getElem?_eq_some_iff.1 HN2.out).1; omega)
     have HNE5_9 : Hid (b5 ≠ b9) := Lib.hid (by have := (Array.getElem?_eq_some_iff.1 HN9.out).1; omega)
     clear hy5 hw5
     have HBE := Lib.hid (bthen HBE.out hx5)
     have hSp := HSS.out _ HBE.out
     clear hHeld
     refine hK.out _ _ hSp (fun hHeld => ?_)
     clear hSp hK K
     try simp only [Act.put, List.setIfInBounds_toArray, List.set_cons_zero, List.set_cons_succ]
     have HN2 := Lib.hid ((hx5.block b2 (Array.getElem?_eq_some_iff.1 HN2.out).1).trans HN2.out)
     have HN9 := Lib.hid ((hx5.block b9 (Array.getElem?_eq_some_iff.1 HN9.out).1).trans HN9.out)
     clear hx5
     refine wpAnyH_ready (rs := [6]) (by kernel_rfl) (by simp) ?_
     refine AllReadyH.cons rfl (fun K hK => ?_) (AllReadyH.nil)
     have hmm := @run_makeMap Tryz.prog
     simp only [List.getElem_toArray, List.getElem_cons_zero, List.getElem_cons_succ]
     go_simp
     clear hmm
     obtain ⟨b6, hw6⟩ : ∃ b, y5.heap.size = b := ⟨_, rfl⟩
     obtain ⟨y6, hy6⟩ : ∃ y, y5.alloc (.map #[] 0) = y := ⟨_, rfl⟩
     rw [hy6, hw6]
     have hx6 : Below y5.heap.size y5 y6 := by rw [← hy6]; exact balloc (Below.refl _ _) _
     have HN6 : Hid (y6.heap[b6]? = some (.map #[] 0)) := Lib.hid (by rw [← hy6, ← hw6]; exact heap_alloc_new _ _)
     have HG6 : Hid (w3.heap.size ≤ b6) := Lib.hid (by have := HBE.out.size; omega)
     have HNE2_6 : Hid (b2 ≠ b6) := Lib.hid (by have := (Array.getElem?_eq_some_iff.1 HN2.out).1; omega)
     have HNE6_9 : Hid (b6 ≠ b9) := Lib.hid (by have := (Array.getElem?_eq_some_iff.1 HN9.out).1; omega)
     have HNE5_6 : Hid (b5 ≠ b6) := Lib.hid (by have := (Array.getElem?_eq_some_iff.1 HN5.out).1; omega)
     clear hy6 hw6
     have HBE := Lib.hid (bthen HBE.out hx6)
     have hSp := HSS.out _ HBE.out
     clear hHeld
     refine hK.out _ _ hSp (fun hHeld => ?_)
     clear hSp hK K
     try simp only [Act.put, List.setIfInBounds_toArray, List.set_cons_zero, List.set_cons_succ]
     have HN2 := Lib.hid ((hx6.block b2 (Array.getElem?_eq_some_iff.1 HN2.out).1).trans HN2.out)
     have HN9 := Lib.hid ((hx6.block b9 (Array.getElem?_eq_some_iff.1 HN9.out).1).trans HN9.out)
     have HN5 := Lib.hid ((hx6.block b5 (Array.getElem?_eq_some_iff.1 HN5.out).1).trans HN5.out)
     clear hx6
     refine wpAnyH_take (i := 7) (v := .agg #[.slice (some ⟨b2, 0, none⟩) m m, .slice (some ⟨b5, 0, none⟩) k k, .map (some b6), .slice none 0 0]) rfl (by kernel_rfl) (by kernel_rfl) (by kernel_rfl) (fun _ _ _ h => h) (Or.inl ⟨by rfl, ?_⟩) (by assumption) ?_
     ·(intro w hSw; simp only [List.getElem_toArray, List.getElem_cons_zero, List.getElem_cons_succ]; (have hbu := nm_built b2 m b5 k b6; go_simp; first | done | with_reducible rfl))
     simp only [List.getElem_toArray, List.getElem_cons_zero, List.getElem_cons_succ, Act.put, List.setIfInBounds_toArray, List.set_cons_zero, List.set_cons_succ]
     refine wpAnyH_ready (rs := [8]) (by kernel_rfl) (by simp) ?_
     refine AllReadyH.cons rfl (fun K hK => ?_) (AllReadyH.nil)
     simp only [List.getElem_toArray, List.getElem_cons_zero, List.getElem_cons_succ]
     go_simp
     obtain ⟨b8, hw8⟩ : ∃ b, y6.heap.size = b := ⟨_, rfl⟩
     obtain ⟨y8, hy8⟩ : ∃ y, y6.alloc (.cells #[.slice (some ⟨b2, 0, none⟩) m m, .slice (some ⟨b5, 0, none⟩) k k, .map (some b6), .slice none 0 0] 327) = y := ⟨_, rfl⟩
     rw [hy8, hw8]
     have hx8 : Below y6.heap.size y6 y8 := by rw [← hy8]; exact balloc (Below.refl _ _) _
     have HN8 : Hid (y8.heap[b8]? = some (.cells #[.slice (some ⟨b2, 0, none⟩) m m, .slice (some ⟨b5, 0, none⟩) k k, .map (some b6), .slice none 0 0] 327 (0, 0))) := Lib.hid (by rw [← hy8, ← hw8]; exact heap_alloc_new _ _)
     have HG8 : Hid (w3.heap.size ≤ b8) := Lib.hid (by have := HBE.out.size; omega)
     have HNE2_8 : Hid (b2 ≠ b8) := Lib.hid (by have := (Array.getElem?_eq_some_iff.1 HN2.out).1; omega)
     have HNE8_9 : Hid (b8 ≠ b9) := Lib.hid (by have := (Array.getElem?_eq_some_iff.1 HN9.out).1; omega)
     have HNE5_8 : Hid (b5 ≠ b8) := Lib.hid (by have := (Array.getElem?_eq_some_iff.1 HN5.out).1; omega)
     have HNE6_8 : Hid (b6 ≠ b8) := Lib.hid (by have := (Array.getElem?_eq_some_iff.1 HN6.out).1; omega)
     clear hy8 hw8
     have HBE := Lib.hid (bthen HBE.out hx8)
     have hSp := HSS.out _ HBE.out
     clear hHeld
     refine hK.out _ _ hSp (fun hHeld => ?_)
     clear hSp hK K
     try simp only [Act.put, List.setIfInBounds_toArray, List.set_cons_zero, List.set_cons_succ]
     have HN2 := Lib.hid ((hx8.block b2 (Array.getElem?_eq_some_iff.1 HN2.out).1).trans HN2.out)
     have HN9 := Lib.hid ((hx8.block b9 (Array.getElem?_eq_some_iff.1 HN9.out).1).trans HN9.out)
     have HN5 := Lib.hid ((hx8.block b5 (Array.getElem?_eq_some_iff.1 HN5.out).1).trans HN5.out)
     have HN6 := Lib.hid ((hx8.block b6 (Array.getElem?_eq_some_iff.1 HN6.out).1).trans HN6.out)
     clear hx8
     refine wpAnyH_ready (rs := [10]) (by kernel_rfl) (by simp) ?_
     refine AllReadyH.cons rfl (fun K hK => ?_) (AllReadyH.nil)
     have hc10_0 := cellOf HN9.out 0 rfl
     have hf10_0 := frozenOf HN9.out 0
     simp only [List.getElem_toArray, List.getElem_cons_zero, List.getElem_cons_succ]
     go_simp
     obtain ⟨y10, hy10⟩ : ∃ y, (y8.setCell ⟨b9, 0, none⟩ (.pointer (some ⟨b8, 0, none⟩))) = y := ⟨_, rfl⟩
     rw [hy10]
     have hm10 : Mods [b9] y8 y10 := by rw [← hy10]; exact (Mods.refl [b9] y8).setCell (p := ⟨b9, 0, none⟩) (by simp) _
     have hv10 := setOf (HN9.out) 0 (.pointer (some ⟨b8, 0, none⟩))
     rw [hy10] at hv10
     clear hy10 hc10_0 hf10_0
     have HBE : Hid (Below w3.heap.size w3 y10) := Lib.hid (HBE.out.trans (hm10.below (fun k hk => by have := HG9.out; have e := List.mem_singleton.1 hk; omega) HBE.out.size))
     have hSp := HSS.out _ HBE.out
     clear hHeld
     refine hK.out _ _ hSp (fun hHeld => ?_)
     clear hSp hK K
     try simp only [Act.put, List.setIfInBounds_toArray, List.set_cons_zero, List.set_cons_succ]
     have HN2 := Lib.hid ((hm10.block b2 (Array.getElem?_eq_some_iff.1 HN2.out).1 (fun h => by have e := List.mem_singleton.1 h; have := HNE2_9.out; omega)).trans HN2.out)
     have HN5 := Lib.hid ((hm10.block b5 (Array.getElem?_eq_some_iff.1 HN5.out).1 (fun h => by have e := List.mem_singleton.1 h; have := HNE5_9.out; omega)).trans HN5.out)
     have HN6 := Lib.hid ((hm10.block b6 (Array.getElem?_eq_some_iff.1 HN6.out).1 (fun h => by have e := List.mem_singleton.1 h; have := HNE6_9.out; omega)).trans HN6.out)
     have HN8 := Lib.hid ((hm10.block b8 (Array.getElem?_eq_some_iff.1 HN8.out).1 (fun h => by have e := List.mem_singleton.1 h; have := HNE8_9.out; omega)).trans HN8.out)
     simp only [List.setIfInBounds_toArray, List.set_cons_zero, List.set_cons_succ] at hv10
     have HN9 := Lib.hid hv10
     clear hv10 hm10
     refine wpAnyH_done (by kernel_rfl) ?_ _
     have HEND := Lib.hid hHeld.2
     have HSE := Lib.hid hHeld.1
     clear hHeld
     clear HSE HSS
     go_wp2_with fail
     go_meet
     exact ⟨_, b9, b8, b2, b5, b6, rfl, rfl, HEND.out, HG2.out, HN9.out, ⟨HN8.out, HN2.out, HN5.out, HNE2_5.out⟩⟩
    ·skip
     have hmm := @run_makeMap Tryz.prog
     simp only [List.getElem_toArray, List.getElem_cons_zero, List.getElem_cons_succ]
     go_simp
     clear hmm
     obtain ⟨b6, hw6⟩ : ∃ b, y9.heap.size = b := ⟨_, rfl⟩
     obtain ⟨y6, hy6⟩ : ∃ y, y9.alloc (.map #[] 0) = y := ⟨_, rfl⟩
     rw [hy6, hw6]
     have hx6 : Below y9.heap.size y9 y6 := by rw [← hy6]; exact balloc (Below.refl _ _) _
     have HN6 : Hid (y6.heap[b6]? = some (.map #[] 0)) := Lib.hid (by rw [← hy6, ← hw6]; exact heap_alloc_new _ _)
     have HG6 : Hid (w3.heap.size ≤ b6) := Lib.hid (by have := HBE.out.size; omega)
     have HNE2_6 : Hid (b2 ≠ b6) := Lib.hid (by have := (Array.getElem?_eq_some_iff.1 HN2.out).1; omega)
     have HNE6_9 : Hid (b6 ≠ b9) := Lib.hid (by have := (Array.getElem?_eq_some_iff.1 HN9.out).1; omega)
     clear hy6 hw6
     have HBE := Lib.hid (bthen HBE.out hx6)
     have hSp := HSS.out _ HBE.out
     clear hHeld
     refine hK.out _ _ hSp (fun hHeld => ?_)
     clear hSp hK K
     try simp only [Act.put, List.setIfInBounds_toArray, List.set_cons_zero, List.set_cons_succ]
     have HN2 := Lib.hid ((hx6.block b2 (Array.getElem?_eq_some_iff.1 HN2.out).1).trans HN2.out)
     have HN9 := Lib.hid ((hx6.block b9 (Array.getElem?_eq_some_iff.1 HN9.out).1).trans HN9.out)
     clear hx6
     refine wpAnyH_ready (rs := [5]) (by kernel_rfl) (by simp) ?_
     refine AllReadyH.cons rfl (fun K hK => ?_) (AllReadyH.nil)
     have hmm := run_mkI y6 k (by omega)
     simp only [List.getElem_toArray, List.getElem_cons_zero, List.getElem_cons_succ]
     go_simp
     clear hmm
     obtain ⟨b5, hw5⟩ : ∃ b, y6.heap.size = b := ⟨_, rfl⟩
     obtain ⟨y5, hy5⟩ : ∃ y, y6.alloc (.cells (iV (List.replicate k 0)).toArray 3) = y := ⟨_, rfl⟩
     rw [hy5, hw5]
     have hx5 : Below y6.heap.size y6 y5 := by rw [← hy5]; exact balloc (Below.refl _ _) _
     have HN5 : Hid (y5.heap[b5]? = some (.cells (iV (List.replicate k 0)).toArray 3 (0, 0))) := Lib.hid (by rw [← hy5, ← hw5]; exact heap_alloc_new _ _)
     have HG5 : Hid (w3.heap.size ≤ b5) := Lib.hid (by have := HBE.out.size; omega)
     have HNE2_5 : Hid (b2 ≠ b5) := Lib.hid (by have := (Array.getElem?_eq_some_iff.1 HN2.out).1; omega)
     have HNE5_9 : Hid (b5 ≠ b9) := Lib.hid (by have := (Array.getElem?_eq_some_iff.1 HN9.out).1; omega)
     have HNE5_6 : Hid (b5 ≠ b6) := Lib.hid (by have := (Array.getElem?_eq_some_iff.1 HN6.out).1; omega)
     clear hy5 hw5
     have HBE := Lib.hid (bthen HBE.out hx5)
     have hSp := HSS.out _ HBE.out
     clear hHeld
     refine hK.out _ _ hSp (fun hHeld => ?_)
     clear hSp hK K
     try simp only [Act.put, List.setIfInBounds_toArray, List.set_cons_zero, List.set_cons_succ]
     have HN2 := Lib.hid ((hx5.block b2 (Array.getElem?_eq_some_iff.1 HN2.out).1).trans HN2.out)
     have HN9 := Lib.hid ((hx5.block b9 (Array.getElem?_eq_some_iff.1 HN9.out).1).trans HN9.out)
     have HN6 := Lib.hid ((hx5.block b6 (Array.getElem?_eq_some_iff.1 HN6.out).1).trans HN6.out)
     clear hx5
     refine wpAnyH_take (i := 7) (v := .agg #[.slice (some ⟨b2, 0, none⟩) m m, .slice (some ⟨b5, 0, none⟩) k k, .map (some b6), .slice none 0 0]) rfl (by kernel_rfl) (by kernel_rfl) (by kernel_rfl) (fun _ _ _ h => h) (Or.inl ⟨by rfl, ?_⟩) (by assumption) ?_
     ·(intro w hSw; simp only [List.getElem_toArray, List.getElem_cons_zero, List.getElem_cons_succ]; (have hbu := nm_built b2 m b5 k b6; go_simp; first | done | with_reducible rfl))
     simp only [List.getElem_toArray, List.getElem_cons_zero, List.getElem_cons_succ, Act.put, List.setIfInBounds_toArray, List.set_cons_zero, List.set_cons_succ]
     refine wpAnyH_ready (rs := [8]) (by kernel_rfl) (by simp) ?_
     refine AllReadyH.cons rfl (fun K hK => ?_) (AllReadyH.nil)
     simp only [List.getElem_toArray, List.getElem_cons_zero, List.getElem_cons_succ]
     go_simp
     obtain ⟨b8, hw8⟩ : ∃ b, y5.heap.size = b := ⟨_, rfl⟩
     obtain ⟨y8, hy8⟩ : ∃ y, y5.alloc (.cells #[.slice (some ⟨b2, 0, none⟩) m m, .slice (some ⟨b5, 0, none⟩) k k, .map (some b6), .slice none 0 0] 327) = y := ⟨_, rfl⟩
     rw [hy8, hw8]
     have hx8 : Below y5.heap.size y5 y8 := by rw [← hy8]; exact balloc (Below.refl _ _) _
     have HN8 : Hid (y8.heap[b8]? = some (.cells #[.slice (some ⟨b2, 0, none⟩) m m, .slice (some ⟨b5, 0, none⟩) k k, .map (some b6), .slice none 0 0] 327 (0, 0))) := Lib.hid (by rw [← hy8, ← hw8]; exact heap_alloc_new _ _)
     have HG8 : Hid (w3.heap.size ≤ b8) := Lib.hid (by have := HBE.out.size; omega)
     have HNE2_8 : Hid (b2 ≠ b8) := Lib.hid (by have := (Array.getElem?_eq_some_iff.1 HN2.out).1; omega)
     have HNE8_9 : Hid (b8 ≠ b9) := Lib.hid (by have := (Array.getElem?_eq_some_iff.1 HN9.out).1; omega)
     have HNE6_8 : Hid (b6 ≠ b8) := Lib.hid (by have := (Array.getElem?_eq_some_iff.1 HN6.out).1; omega)
     have HNE5_8 : Hid (b5 ≠ b8) := Lib.hid (by have := (Array.getElem?_eq_some_iff.1 HN5.out).1; omega)
     clear hy8 hw8
     have HBE := Lib.hid (bthen HBE.out hx8)
     have hSp := HSS.out _ HBE.out
     clear hHeld
     refine hK.out _ _ hSp (fun hHeld => ?_)
     clear hSp hK K
     try simp only [Act.put, List.setIfInBounds_toArray, List.set_cons_zero, List.set_cons_succ]
     have HN2 := Lib.hid ((hx8.block b2 (Array.getElem?_eq_some_iff.1 HN2.out).1).trans HN2.out)
     have HN9 := Lib.hid ((hx8.block b9 (Array.getElem?_eq_some_iff.1 HN9.out).1).trans HN9.out)
     have HN6 := Lib.hid ((hx8.block b6 (Array.getElem?_eq_some_iff.1 HN6.out).1).trans HN6.out)
     have HN5 := Lib.hid ((hx8.block b5 (Array.getElem?_eq_some_iff.1 HN5.out).1).trans HN5.out)
     clear hx8
     refine wpAnyH_ready (rs := [10]) (by kernel_rfl) (by simp) ?_
     refine AllReadyH.cons rfl (fun K hK => ?_) (AllReadyH.nil)
     have hc10_0 := cellOf HN9.out 0 rfl
     have hf10_0 := frozenOf HN9.out 0
     simp only [List.getElem_toArray, List.getElem_cons_zero, List.getElem_cons_succ]
     go_simp
     obtain ⟨y10, hy10⟩ : ∃ y, (y8.setCell ⟨b9, 0, none⟩ (.pointer (some ⟨b8, 0, none⟩))) = y := ⟨_, rfl⟩
     rw [hy10]
     have hm10 : Mods [b9] y8 y10 := by rw [← hy10]; exact (Mods.refl [b9] y8).setCell (p := ⟨b9, 0, none⟩) (by simp) _
     have hv10 := setOf (HN9.out) 0 (.pointer (some ⟨b8, 0, none⟩))
     rw [hy10] at hv10
     clear hy10 hc10_0 hf10_0
     have HBE : Hid (Below w3.heap.size w3 y10) := Lib.hid (HBE.out.trans (hm10.below (fun k hk => by have := HG9.out; have e := List.mem_singleton.1 hk; omega) HBE.out.size))
     have hSp := HSS.out _ HBE.out
     clear hHeld
     refine hK.out _ _ hSp (fun hHeld => ?_)
     clear hSp hK K
     try simp only [Act.put, List.setIfInBounds_toArray, List.set_cons_zero, List.set_cons_succ]
     have HN2 := Lib.hid ((hm10.block b2 (Array.getElem?_eq_some_iff.1 HN2.out).1 (fun h => by have e := List.mem_singleton.1 h; have := HNE2_9.out; omega)).trans HN2.out)
     have HN6 := Lib.hid ((hm10.block b6 (Array.getElem?_eq_some_iff.1 HN6.out).1 (fun h => by have e := List.mem_singleton.1 h; have := HNE6_9.out; omega)).trans HN6.out)
     have HN5 := Lib.hid ((hm10.block b5 (Array.getElem?_eq_some_iff.1 HN5.out).1 (fun h => by have e := List.mem_singleton.1 h; have := HNE5_9.out; omega)).trans HN5.out)
     have HN8 := Lib.hid ((hm10.block b8 (Array.getElem?_eq_some_iff.1 HN8.out).1 (fun h => by have e := List.mem_singleton.1 h; have := HNE8_9.out; omega)).trans HN8.out)
     simp only [List.setIfInBounds_toArray, List.set_cons_zero, List.set_cons_succ] at hv10
     have HN9 := Lib.hid hv10
     clear hv10 hm10
     refine wpAnyH_done (by kernel_rfl) ?_ _
     have HEND := Lib.hid hHeld.2
     have HSE := Lib.hid hHeld.1
     clear hHeld
     clear HSE HSS
     go_wp2_with fail
     go_meet
     exact ⟨_, b9, b8, b2, b5, b6, rfl, rfl, HEND.out, HG2.out, HN9.out, ⟨HN8.out, HN2.out, HN5.out, HNE2_5.out⟩⟩
  ·skip
   have hmm := run_mkI wd k (by omega)
   simp only [List.getElem_toArray, List.getElem_cons_zero, List.getElem_cons_succ]
   go_simp
   clear hmm
   obtain ⟨b5, hw5⟩ : ∃ b, wd.heap.size = b := ⟨_, rfl⟩
   obtain ⟨y5, hy5⟩ : ∃ y, wd.alloc (.cells (iV (List.replicate k 0)).toArray 3) = y := ⟨_, rfl⟩
   rw [hy5, hw5]
   have hx5 : Below wd.heap.size wd y5 := by rw [← hy5]; exact balloc (Below.refl _ _) _
   have HN5 : Hid (y5.heap[b5]? = some (.cells (iV (List.replicate k 0)).toArray 3 (0, 0))) := Lib.hid (by rw [← hy5, ← hw5]; exact heap_alloc_new _ _)
   have HG5 : Hid (w3.heap.size ≤ b5) := Lib.hid (by have := HBE.out.size; omega)
   clear hy5 hw5
   have HBE := Lib.hid (bthen HBE.out hx5)
   have hSp := HSS.out _ HBE.out
   clear hHeld
   refine hK.out _ _ hSp (fun hHeld => ?_)
   clear hSp hK K
   try simp only [Act.put, List.setIfInBounds_toArray, List.set_cons_zero, List.set_cons_succ]
   clear hx5
   refine wpAnyH_ready (rs := [2, 6, 9]) (by kernel_rfl) (by simp) ?_
   refine AllReadyH.cons rfl (fun K hK => ?_) (AllReadyH.cons rfl (fun K hK => ?_) (AllReadyH.cons rfl (fun K hK => ?_) (AllReadyH.nil)))
   ·skip
    have hmm := run_mkI y5 m (by omega)
    simp only [List.getElem_toArray, List.getElem_cons_zero, List.getElem_cons_succ]
    go_simp
    clear hmm
    obtain ⟨b2, hw2⟩ : ∃ b, y5.heap.size = b := ⟨_, rfl⟩
    obtain ⟨y2, hy2⟩ : ∃ y, y5.alloc (.cells (iV (List.replicate m 0)).toArray 3) = y := ⟨_, rfl⟩
    rw [hy2, hw2]
    have hx2 : Below y5.heap.size y5 y2 := by rw [← hy2]; exact balloc (Below.refl _ _) _
    have HN2 : Hid (y2.heap[b2]? = some (.cells (iV (List.replicate m 0)).toArray 3 (0, 0))) := Lib.hid (by rw [← hy2, ← hw2]; exact heap_alloc_new _ _)
    have HG2 : Hid (w3.heap.size ≤ b2) := Lib.hid (by have := HBE.out.size; omega)
    have HNE2_5 : Hid (b2 ≠ b5) := Lib.hid (by have := (Array.getElem?_eq_some_iff.1 HN5.out).1; omega)
    clear hy2 hw2
    have HBE := Lib.hid (bthen HBE.out hx2)
    have hSp := HSS.out _ HBE.out
    clear hHeld
    refine hK.out _ _ hSp (fun hHeld => ?_)
    clear hSp hK K
    try simp only [Act.put, List.setIfInBounds_toArray, List.set_cons_zero, List.set_cons_succ]
    have HN5 := Lib.hid ((hx2.block b5 (Array.getElem?_eq_some_iff.1 HN5.out).1).trans HN5.out)
    clear hx2
    refine wpAnyH_ready (rs := [6, 9]) (by kernel_rfl) (by simp) ?_
    refine AllReadyH.cons rfl (fun K hK => ?_) (AllReadyH.cons rfl (fun K hK => ?_) (AllReadyH.nil))
    ·skip
     have hmm := @run_makeMap Tryz.prog
     simp only [List.getElem_toArray, List.getElem_cons_zero, List.getElem_cons_succ]
     go_simp
     clear hmm
     obtain ⟨b6, hw6⟩ : ∃ b, y2.heap.size = b := ⟨_, rfl⟩
     obtain ⟨y6, hy6⟩ : ∃ y, y2.alloc (.map #[] 0) = y := ⟨_, rfl⟩
     rw [hy6, hw6]
     have hx6 : Below y2.heap.size y2 y6 := by rw [← hy6]; exact balloc (Below.refl _ _) _
     have HN6 : Hid (y6.heap[b6]? = some (.map #[] 0)) := Lib.hid (by rw [← hy6, ← hw6]; exact heap_alloc_new _ _)
     have HG6 : Hid (w3.heap.size ≤ b6) := Lib.hid (by have := HBE.out.size; omega)
     have HNE5_6 : Hid (b5 ≠ b6) := Lib.hid (by have := (Array.getElem?_eq_some_iff.1 HN5.out).1; omega)
     have HNE2_6 : Hid (b2 ≠ b6) := Lib.hid (by have := (Array.getElem?_eq_some_iff.1 HN2.out).1; omega)
     clear hy6 hw6
     have HBE := Lib.hid (bthen HBE.out hx6)
     have hSp := HSS.out _ HBE.out
     clear hHeld
     refine hK.out _ _ hSp (fun hHeld => ?_)
     clear hSp hK K
     try simp only [Act.put, List.setIfInBounds_toArray, List.set_cons_zero, List.set_cons_succ]
     have HN5 := Lib.hid ((hx6.block b5 (Array.getElem?_eq_some_iff.1 HN5.out).1).trans HN5.out)
     have HN2 := Lib.hid ((hx6.block b2 (Array.getElem?_eq_some_iff.1 HN2.out).1).trans HN2.out)
     clear hx6
     refine wpAnyH_take (i := 7) (v := .agg #[.slice (some ⟨b2, 0, none⟩) m m, .slice (some ⟨b5, 0, none⟩) k k, .map (some b6), .slice none 0 0]) rfl (by kernel_rfl) (by kernel_rfl) (by kernel_rfl) (fun _ _ _ h => h) (Or.inl ⟨by rfl, ?_⟩) (by assumption) ?_
     ·(intro w hSw; simp only [List.getElem_toArray, List.getElem_cons_zero, List.getElem_cons_succ]; (have hbu := nm_built b2 m b5 k b6; go_simp; first | done | with_reducible rfl))
     simp only [List.getElem_toArray, List.getElem_cons_zero, List.getElem_cons_succ, Act.put, List.setIfInBounds_toArray, List.set_cons_zero, List.set_cons_succ]
     refine wpAnyH_ready (rs := [8, 9]) (by kernel_rfl) (by simp) ?_
     refine AllReadyH.cons rfl (fun K hK => ?_) (AllReadyH.cons rfl (fun K hK => ?_) (AllReadyH.nil))
     ·skip
      simp only [List.getElem_toArray, List.getElem_cons_zero, List.getElem_cons_succ]
      go_simp
      obtain ⟨b8, hw8⟩ : ∃ b, y6.heap.size = b := ⟨_, rfl⟩
      obtain ⟨y8, hy8⟩ : ∃ y, y6.alloc (.cells #[.slice (some ⟨b2, 0, none⟩) m m, .slice (some ⟨b5, 0, none⟩) k k, .map (some b6), .slice none 0 0] 327) = y := ⟨_, rfl⟩
      rw [hy8, hw8]
      have hx8 : Below y6.heap.size y6 y8 := by rw [← hy8]; exact balloc (Below.refl _ _) _
      have HN8 : Hid (y8.heap[b8]? = some (.cells #[.slice (some ⟨b2, 0, none⟩) m m, .slice (some ⟨b5, 0, none⟩) k k, .map (some b6), .slice none 0 0] 327 (0, 0))) := Lib.hid (by rw [← hy8, ← hw8]; exact heap_alloc_new _ _)
      have HG8 : Hid (w3.heap.size ≤ b8) := Lib.hid (by have := HBE.out.size; omega)
      have HNE5_8 : Hid (b5 ≠ b8) := Lib.hid (by have := (Array.getElem?_eq_some_iff.1 HN5.out).1; omega)
      have HNE2_8 : Hid (b2 ≠ b8) := Lib.hid (by have := (Array.getElem?_eq_some_iff.1 HN2.out).1; omega)
      have HNE6_8 : Hid (b6 ≠ b8) := Lib.hid (by have := (Array.getElem?_eq_some_iff.1 HN6.out).1; omega)
      clear hy8 hw8
      have HBE := Lib.hid (bthen HBE.out hx8)
      have hSp := HSS.out _ HBE.out
      clear hHeld
      refine hK.out _ _ hSp (fun hHeld => ?_)
      clear hSp hK K
      try simp only [Act.put, List.setIfInBounds_toArray, List.set_cons_zero, List.set_cons_succ]
      have HN5 := Lib.hid ((hx8.block b5 (Array.getElem?_eq_some_iff.1 HN5.out).1).trans HN5.out)
      have HN2 := Lib.hid ((hx8.block b2 (Array.getElem?_eq_some_iff.1 HN2.out).1).trans HN2.out)
      have HN6 := Lib.hid ((hx8.block b6 (Array.getElem?_eq_some_iff.1 HN6.out).1).trans HN6.out)
      clear hx8
      refine wpAnyH_ready (rs := [9]) (by kernel_rfl) (by simp) ?_
      refine AllReadyH.cons rfl (fun K hK => ?_) (AllReadyH.nil)
      simp only [List.getElem_toArray, List.getElem_cons_zero, List.getElem_cons_succ]
      go_simp
      obtain ⟨b9, hw9⟩ : ∃ b, y8.heap.size = b := ⟨_, rfl⟩
      obtain ⟨y9, hy9⟩ : ∃ y, y8.alloc (.cells #[.pointer none] 323) = y := ⟨_, rfl⟩
      rw [hy9, hw9]
      have hx9 : Below y8.heap.size y8 y9 := by rw [← hy9]; exact balloc (Below.refl _ _) _
      have HN9 : Hid (y9.heap[b9]? = some (.cells #[.pointer none] 323 (0, 0))) := Lib.hid (by rw [← hy9, ← hw9]; exact heap_alloc_new _ _)
      have HG9 : Hid (w3.heap.size ≤ b9) := Lib.hid (by have := HBE.out.size; omega)
      have HNE5_9 : Hid (b5 ≠ b9) := Lib.hid (by have := (Array.getElem?_eq_some_iff.1 HN5.out).1; omega)
      have HNE2_9 : Hid (b2 ≠ b9) := Lib.hid (by have := (Array.getElem?_eq_some_iff.1 HN2.out).1; omega)
      have HNE6_9 : Hid (b6 ≠ b9) := Lib.hid (by have := (Array.getElem?_eq_some_iff.1 HN6.out).1; omega)
      have HNE8_9 : Hid (b8 ≠ b9) := Lib.hid (by have := (Array.getElem?_eq_some_iff.1 HN8.out).1; omega)
      clear hy9 hw9
      have HBE := Lib.hid (bthen HBE.out hx9)
      have hSp := HSS.out _ HBE.out
      clear hHeld
      refine hK.out _ _ hSp (fun hHeld => ?_)
      clear hSp hK K
      try simp only [Act.put, List.setIfInBounds_toArray, List.set_cons_zero, List.set_cons_succ]
      have HN5 := Lib.hid ((hx9.block b5 (Array.getElem?_eq_some_iff.1 HN5.out).1).trans HN5.out)
      have HN2 := Lib.hid ((hx9.block b2 (Array.getElem?_eq_some_iff.1 HN2.out).1).trans HN2.out)
      have HN6 := Lib.hid ((hx9.block b6 (Array.getElem?_eq_some_iff.1 HN6.out).1).trans HN6.out)
      have HN8 := Lib.hid ((hx9.block b8 (Array.getElem?_eq_some_iff.1 HN8.out).1).trans HN8.out)
      clear hx9
      refine wpAnyH_ready (rs := [10]) (by kernel_rfl) (by simp) ?_
      refine AllReadyH.cons rfl (fun K hK => ?_) (AllReadyH.nil)
      have hc10_0 := cellOf HN9.out 0 rfl
      have hf10_0 := frozenOf HN9.out 0
      simp only [List.getElem_toArray, List.getElem_cons_zero, List.getElem_cons_succ]
      go_simp
      obtain ⟨y10, hy10⟩ : ∃ y, (y9.setCell ⟨b9, 0, none⟩ (.pointer (some ⟨b8, 0, none⟩))) = y := ⟨_, rfl⟩
      rw [hy10]
      have hm10 : Mods [b9] y9 y10 := by rw [← hy10]; exact (Mods.refl [b9] y9).setCell (p := ⟨b9, 0, none⟩) (by simp) _
      have hv10 := setOf (HN9.out) 0 (.pointer (some ⟨b8, 0, none⟩))
      rw [hy10] at hv10
      clear hy10 hc10_0 hf10_0
      have HBE : Hid (Below w3.heap.size w3 y10) := Lib.hid (HBE.out.trans (hm10.below (fun k hk => by have := HG9.out; have e := List.mem_singleton.1 hk; omega) HBE.out.size))
      have hSp := HSS.out _ HBE.out
      clear hHeld
      refine hK.out _ _ hSp (fun hHeld => ?_)
      clear hSp hK K
      try simp only [Act.put, List.setIfInBounds_toArray, List.set_cons_zero, List.set_cons_succ]
      have HN5 := Lib.hid ((hm10.block b5 (Array.getElem?_eq_some_iff.1 HN5.out).1 (fun h => by have e := List.mem_singleton.1 h; have := HNE5_9.out; omega)).trans HN5.out)
      have HN2 := Lib.hid ((hm10.block b2 (Array.getElem?_eq_some_iff.1 HN2.out).1 (fun h => by have e := List.mem_singleton.1 h; have := HNE2_9.out; omega)).trans HN2.out)
      have HN6 := Lib.hid ((hm10.block b6 (Array.getElem?_eq_some_iff.1 HN6.out).1 (fun h => by have e := List.mem_singleton.1 h; have := HNE6_9.out; omega)).trans HN6.out)
      have HN8 := Lib.hid ((hm10.block b8 (Array.getElem?_eq_some_iff.1 HN8.out).1 (fun h => by have e := List.mem_singleton.1 h; have := HNE8_9.out; omega)).trans HN8.out)
      simp only [List.setIfInBounds_toArray, List.set_cons_zero, List.set_cons_succ] at hv10
      have HN9 := Lib.hid hv10
      clear hv10 hm10
      refine wpAnyH_done (by kernel_rfl) ?_ _
      have HEND := Lib.hid hHeld.2
      have HSE := Lib.hid hHeld.1
      clear hHeld
      clear HSE HSS
      go_wp2_with fail
      go_meet
      exact ⟨_, b9, b8, b2, b5, b6, rfl, rfl, HEND.out, HG2.out, HN9.out, ⟨HN8.out, HN2.out, HN5.out, HNE2_5.out⟩⟩
     ·skip
      simp only [List.getElem_toArray, List.getElem_cons_zero, List.getElem_cons_succ]
      go_simp
      obtain ⟨b9, hw9⟩ : ∃ b, y6.heap.size = b := ⟨_, rfl⟩
      obtain ⟨y9, hy9⟩ : ∃ y, y6.alloc (.cells #[.pointer none] 323) = y := ⟨_, rfl⟩
      rw [hy9, hw9]
      have hx9 : Below y6.heap.size y6 y9 := by rw [← hy9]; exact balloc (Below.refl _ _) _
      have HN9 : Hid (y9.heap[b9]? = some (.cells #[.pointer none] 323 (0, 0))) := Lib.hid (by rw [← hy9, ← hw9]; exact heap_alloc_new _ _)
      have HG9 : Hid (w3.heap.size ≤ b9) := Lib.hid (by have := HBE.out.size; omega)
      have HNE5_9 : Hid (b5 ≠ b9) := Lib.hid (by have := (Array.getElem?_eq_some_iff.1 HN5.out).1; omega)
      have HNE2_9 : Hid (b2 ≠ b9) := Lib.hid (by have := (Array.getElem?_eq_some_iff.1 HN2.out).1; omega)
      have HNE6_9 : Hid (b6 ≠ b9) := Lib.hid (by have := (Array.getElem?_eq_some_iff.1 HN6.out).1; omega)
      clear hy9 hw9
      have HBE := Lib.hid (bthen HBE.out hx9)
      have hSp := HSS.out _ HBE.out
      clear hHeld
      refine hK.out _ _ hSp (fun hHeld => ?_)
      clear hSp hK K
      try simp only [Act.put, List.setIfInBounds_toArray, List.set_cons_zero, List.set_cons_succ]
      have HN5 := Lib.hid ((hx9.block b5 (Array.getElem?_eq_some_iff.1 HN5.out).1).trans HN5.out)
      have HN2 := Lib.hid ((hx9.block b2 (Array.getElem?_eq_some_iff.1 HN2.out).1).trans HN2.out)
      have HN6 := Lib.hid ((hx9.block b6 (Array.getElem?_eq_some_iff.1 HN6.out).1).trans HN6.out)
      clear hx9
      refine wpAnyH_ready (rs := [8]) (by kernel_rfl) (by simp) ?_
      refine AllReadyH.cons rfl (fun K hK => ?_) (AllReadyH.nil)
      simp only [List.getElem_toArray, List.getElem_cons_zero, List.getElem_cons_succ]
      go_simp
      obtain ⟨b8, hw8⟩ : ∃ b, y9.heap.size = b := ⟨_, rfl⟩
      obtain ⟨y8, hy8⟩ : ∃ y, y9.alloc (.cells #[.slice (some ⟨b2, 0, none⟩) m m, .slice (some ⟨b5, 0, none⟩) k k, .map (some b6), .slice none 0 0] 327) = y := ⟨_, rfl⟩
      rw [hy8, hw8]
      have hx8 : Below y9.heap.size y9 y8 := by rw [← hy8]; exact balloc (Below.refl _ _) _
      have HN8 : Hid (y8.heap[b8]? = some (.cells #[.slice (some ⟨b2, 0, none⟩) m m, .slice (some ⟨b5, 0, none⟩) k k, .map (some b6), .slice none 0 0] 327 (0, 0))) := Lib.hid (by rw [← hy8, ← hw8]; exact heap_alloc_new _ _)
      have HG8 : Hid (w3.heap.size ≤ b8) := Lib.hid (by have := HBE.out.size; omega)
      have HNE5_8 : Hid (b5 ≠ b8) := Lib.hid (by have := (Array.getElem?_eq_some_iff.1 HN5.out).1; omega)
      have HNE2_8 : Hid (b2 ≠ b8) := Lib.hid (by have := (Array.getElem?_eq_some_iff.1 HN2.out).1; omega)
      have HNE6_8 : Hid (b6 ≠ b8) := Lib.hid (by have := (Array.getElem?_eq_some_iff.1 HN6.out).1; omega)
      have HNE8_9 : Hid (b8 ≠ b9) := Lib.hid (by have := (Array.getElem?_eq_some_iff.1 HN9.out).1; omega)
      clear hy8 hw8
      have HBE := Lib.hid (bthen HBE.out hx8)
      have hSp := HSS.out _ HBE.out
      clear hHeld
      refine hK.out _ _ hSp (fun hHeld => ?_)
      clear hSp hK K
      try simp only [Act.put, List.setIfInBounds_toArray, List.set_cons_zero, List.set_cons_succ]
      have HN5 := Lib.hid ((hx8.block b5 (Array.getElem?_eq_some_iff.1 HN5.out).1).trans HN5.out)
      have HN2 := Lib.hid ((hx8.block b2 (Array.getElem?_eq_some_iff.1 HN2.out).1).trans HN2.out)
      have HN6 := Lib.hid ((hx8.block b6 (Array.getElem?_eq_some_iff.1 HN6.out).1).trans HN6.out)
      have HN9 := Lib.hid ((hx8.block b9 (Array.getElem?_eq_some_iff.1 HN9.out).1).trans HN9.out)
      clear hx8
      refine wpAnyH_ready (rs := [10]) (by kernel_rfl) (by simp) ?_
      refine AllReadyH.cons rfl (fun K hK => ?_) (AllReadyH.nil)
      have hc10_0 := cellOf HN9.out 0 rfl
      have hf10_0 := frozenOf HN9.out 0
      simp only [List.getElem_toArray, List.getElem_cons_zero, List.getElem_cons_succ]
      go_simp
      obtain ⟨y10, hy10⟩ : ∃ y, (y8.setCell ⟨b9, 0, none⟩ (.pointer (some ⟨b8, 0, none⟩))) = y := ⟨_, rfl⟩
      rw [hy10]
      have hm10 : Mods [b9] y8 y10 := by rw [← hy10]; exact (Mods.refl [b9] y8).setCell (p := ⟨b9, 0, none⟩) (by simp) _
      have hv10 := setOf (HN9.out) 0 (.pointer (some ⟨b8, 0, none⟩))
      rw [hy10] at hv10
      clear hy10 hc10_0 hf10_0
      have HBE : Hid (Below w3.heap.size w3 y10) := Lib.hid (HBE.out.trans (hm10.below (fun k hk => by have := HG9.out; have e := List.mem_singleton.1 hk; omega) HBE.out.size))
      have hSp := HSS.out _ HBE.out
      clear hHeld
      refine hK.out _ _ hSp (fun hHeld => ?_)
      clear hSp hK K
      try simp only [Act.put, List.setIfInBounds_toArray, List.set_cons_zero, List.set_cons_succ]
      have HN5 := Lib.hid ((hm10.block b5 (Array.getElem?_eq_some_iff.1 HN5.out).1 (fun h => by have e := List.mem_singleton.1 h; have := HNE5_9.out; omega)).trans HN5.out)
      have HN2 := Lib.hid ((hm10.block b2 (Array.getElem?_eq_some_iff.1 HN2.out).1 (fun h => by have e := List.mem_singleton.1 h; have := HNE2_9.out; omega)).trans HN2.out)
      have HN6 := Lib.hid ((hm10.block b6 (Array.getElem?_eq_some_iff.1 HN6.out).1 (fun h => by have e := List.mem_singleton.1 h; have := HNE6_9.out; omega)).trans HN6.out)
      have HN8 := Lib.hid ((hm10.block b8 (Array.getElem?_eq_some_iff.1 HN8.out).1 (fun h => by have e := List.mem_singleton.1 h; have := HNE8_9.out; omega)).trans HN8.out)
      simp only [List.setIfInBounds_toArray, List.set_cons_zero, List.set_cons_succ] at hv10
      have HN9 := Lib.hid hv10
      clear hv10 hm10
      refine wpAnyH_done (by kernel_rfl) ?_ _
      have HEND := Lib.hid hHeld.2
      have HSE := Lib.hid hHeld.1
      clear hHeld
      clear HSE HSS
      go_wp2_with fail
      go_meet
      exact ⟨_, b9, b8, b2, b5, b6, rfl, rfl, HEND.out, HG2.out, HN9.out, ⟨HN8.out, HN2.out, HN5.out, HNE2_5.out⟩⟩
    ·skip
     simp only [List.getElem_toArray, List.getElem_cons_zero, List.getElem_cons_succ]
     go_simp
     obtain ⟨b9, hw9⟩ : ∃ b, y2.heap.size = b := ⟨_, rfl⟩
     obtain ⟨y9, hy9⟩ : ∃ y, y2.alloc (.cells #[.pointer none] 323) = y := ⟨_, rfl⟩
     rw [hy9, hw9]
     have hx9 : Below y2.heap.size y2 y9 := by rw [← hy9]; exact balloc (Below.refl _ _) _
     have HN9 : Hid (y9.heap[b9]? = some (.cells #[.pointer none] 323 (0, 0))) := Lib.hid (by rw [← hy9, ← hw9]; exact heap_alloc_new _ _)
     have HG9 : Hid (w3.heap.size ≤ b9) := Lib.hid (by have := HBE.out.size; omega)
     have HNE5_9 : Hid (b5 ≠ b9) := Lib.hid (by have := (Array.getElem?_eq_some_iff.1 HN5.out).1; omega)
     have HNE2_9 : Hid (b2 ≠ b9) := Lib.hid (by have := (Array.getElem?_eq_some_iff.1 HN2.out).1; omega)
     clear hy9 hw9
     have HBE := Lib.hid (bthen HBE.out hx9)
     have hSp := HSS.out _ HBE.out
     clear hHeld
     refine hK.out _ _ hSp (fun hHeld => ?_)
     clear hSp hK K
     try simp only [Act.put, List.setIfInBounds_toArray, List.set_cons_zero, List.set_cons_succ]
     have HN5 := Lib.hid ((hx9.block b5 (Array.getElem?_eq_some_iff.1 HN5.out).1).trans HN5.out)
     have HN2 := Lib.hid ((hx9.block b2 (Array.getElem?_eq_some_iff.1 HN2.out).1).trans HN2.out)
     clear hx9
     refine wpAnyH_ready (rs := [6]) (by kernel_rfl) (by simp) ?_
     refine AllReadyH.cons rfl (fun K hK => ?_) (AllReadyH.nil)
     have hmm := @run_makeMap Tryz.prog
     simp only [List.getElem_toArray, List.getElem_cons_zero, List.getElem_cons_succ]
     go_simp
     clear hmm
     obtain ⟨b6, hw6⟩ : ∃ b, y9.heap.size = b := ⟨_, rfl⟩
     obtain ⟨y6, hy6⟩ : ∃ y, y9.alloc (.map #[] 0) = y := ⟨_, rfl⟩
     rw [hy6, hw6]
     have hx6 : Below y9.heap.size y9 y6 := by rw [← hy6]; exact balloc (Below.refl _ _) _
     have HN6 : Hid (y6.heap[b6]? = some (.map #[] 0)) := Lib.hid (by rw [← hy6, ← hw6]; exact heap_alloc_new _ _)
     have HG6 : Hid (w3.heap.size ≤ b6) := Lib.hid (by have := HBE.out.size; omega)
     have HNE5_6 : Hid (b5 ≠ b6) := Lib.hid (by have := (Array.getElem?_eq_some_iff.1 HN5.out).1; omega)
     have HNE2_6 : Hid (b2 ≠ b6) := Lib.hid (by have := (Array.getElem?_eq_some_iff.1 HN2.out).1; omega)
     have HNE6_9 : Hid (b6 ≠ b9) := Lib.hid (by have := (Array.getElem?_eq_some_iff.1 HN9.out).1; omega)
     clear hy6 hw6
     have HBE := Lib.hid (bthen HBE.out hx6)
     have hSp := HSS.out _ HBE.out
     clear hHeld
     refine hK.out _ _ hSp (fun hHeld => ?_)
     clear hSp hK K
     try simp only [Act.put, List.setIfInBounds_toArray, List.set_cons_zero, List.set_cons_succ]
     have HN5 := Lib.hid ((hx6.block b5 (Array.getElem?_eq_some_iff.1 HN5.out).1).trans HN5.out)
     have HN2 := Lib.hid ((hx6.block b2 (Array.getElem?_eq_some_iff.1 HN2.out).1).trans HN2.out)
     have HN9 := Lib.hid ((hx6.block b9 (Array.getElem?_eq_some_iff.1 HN9.out).1).trans HN9.out)
     clear hx6
     refine wpAnyH_take (i := 7) (v := .agg #[.slice (some ⟨b2, 0, none⟩) m m, .slice (some ⟨b5, 0, none⟩) k k, .map (some b6), .slice none 0 0]) rfl (by kernel_rfl) (by kernel_rfl) (by kernel_rfl) (fun _ _ _ h => h) (Or.inl ⟨by rfl, ?_⟩) (by assumption) ?_
     ·(intro w hSw; simp only [List.getElem_toArray, List.getElem_cons_zero, List.getElem_cons_succ]; (have hbu := nm_built b2 m b5 k b6; go_simp; first | done | with_reducible rfl))
     simp only [List.getElem_toArray, List.getElem_cons_zero, List.getElem_cons_succ, Act.put, List.setIfInBounds_toArray, List.set_cons_zero, List.set_cons_succ]
     refine wpAnyH_ready (rs := [8]) (by kernel_rfl) (by simp) ?_
     refine AllReadyH.cons rfl (fun K hK => ?_) (AllReadyH.nil)
     simp only [List.getElem_toArray, List.getElem_cons_zero, List.getElem_cons_succ]
     go_simp
     obtain ⟨b8, hw8⟩ : ∃ b, y6.heap.size = b := ⟨_, rfl⟩
     obtain ⟨y8, hy8⟩ : ∃ y, y6.alloc (.cells #[.slice (some ⟨b2, 0, none⟩) m m, .slice (some ⟨b5, 0, none⟩) k k, .map (some b6), .slice none 0 0] 327) = y := ⟨_, rfl⟩
     rw [hy8, hw8]
     have hx8 : Below y6.heap.size y6 y8 := by rw [← hy8]; exact balloc (Below.refl _ _) _
     have HN8 : Hid (y8.heap[b8]? = some (.cells #[.slice (some ⟨b2, 0, none⟩) m m, .slice (some ⟨b5, 0, none⟩) k k, .map (some b6), .slice none 0 0] 327 (0, 0))) := Lib.hid (by rw [← hy8, ← hw8]; exact heap_alloc_new _ _)
     have HG8 : Hid (w3.heap.size ≤ b8) := Lib.hid (by have := HBE.out.size; omega)
     have HNE5_8 : Hid (b5 ≠ b8) := Lib.hid (by have := (Array.getElem?_eq_some_iff.1 HN5.out).1; omega)
     have HNE2_8 : Hid (b2 ≠ b8) := Lib.hid (by have := (Array.getElem?_eq_some_iff.1 HN2.out).1; omega)
     have HNE8_9 : Hid (b8 ≠ b9) := Lib.hid (by have := (Array.getElem?_eq_some_iff.1 HN9.out).1; omega)
     have HNE6_8 : Hid (b6 ≠ b8) := Lib.hid (by have := (Array.getElem?_eq_some_iff.1 HN6.out).1; omega)
     clear hy8 hw8
     have HBE := Lib.hid (bthen HBE.out hx8)
     have hSp := HSS.out _ HBE.out
     clear hHeld
     refine hK.out _ _ hSp (fun hHeld => ?_)
     clear hSp hK K
     try simp only [Act.put, List.setIfInBounds_toArray, List.set_cons_zero, List.set_cons_succ]
     have HN5 := Lib.hid ((hx8.block b5 (Array.getElem?_eq_some_iff.1 HN5.out).1).trans HN5.out)
     have HN2 := Lib.hid ((hx8.block b2 (Array.getElem?_eq_some_iff.1 HN2.out).1).trans HN2.out)
     have HN9 := Lib.hid ((hx8.block b9 (Array.getElem?_eq_some_iff.1 HN9.out).1).trans HN9.out)
     have HN6 := Lib.hid ((hx8.block b6 (Array.getElem?_eq_some_iff.1 HN6.out).1).trans HN6.out)
     clear hx8
     refine wpAnyH_ready (rs := [10]) (by kernel_rfl) (by simp) ?_
     refine AllReadyH.cons rfl (fun K hK => ?_) (AllReadyH.nil)
     have hc10_0 := cellOf HN9.out 0 rfl
     have hf10_0 := frozenOf HN9.out 0
     simp only [List.getElem_toArray, List.getElem_cons_zero, List.getElem_cons_succ]
     go_simp
     obtain ⟨y10, hy10⟩ : ∃ y, (y8.setCell ⟨b9, 0, none⟩ (.pointer (some ⟨b8, 0, none⟩))) = y := ⟨_, rfl⟩
     rw [hy10]
     have hm10 : Mods [b9] y8 y10 := by rw [← hy10]; exact (Mods.refl [b9] y8).setCell (p := ⟨b9, 0, none⟩) (by simp) _
     have hv10 := setOf (HN9.out) 0 (.pointer (some ⟨b8, 0, none⟩))
     rw [hy10] at hv10
     clear hy10 hc10_0 hf10_0
     have HBE : Hid (Below w3.heap.size w3 y10) := Lib.hid (HBE.out.trans (hm10.below (fun k hk => by have := HG9.out; have e := List.mem_singleton.1 hk; omega) HBE.out.size))
     have hSp := HSS.out _ HBE.out
     clear hHeld
     refine hK.out _ _ hSp (fun hHeld => ?_)
     clear hSp hK K
     try simp only [Act.put, List.setIfInBounds_toArray, List.set_cons_zero, List.set_cons_succ]
     have HN5 := Lib.hid ((hm10.block b5 (Array.getElem?_eq_some_iff.1 HN5.out).1 (fun h => by have e := List.mem_singleton.1 h; have := HNE5_9.out; omega)).trans HN5.out)
     have HN2 := Lib.hid ((hm10.block b2 (Array.getElem?_eq_some_iff.1 HN2.out).1 (fun h => by have e := List.mem_singleton.1 h; have := HNE2_9.out; omega)).trans HN2.out)
     have HN6 := Lib.hid ((hm10.block b6 (Array.getElem?_eq_some_iff.1 HN6.out).1 (fun h => by have e := List.mem_singleton.1 h; have := HNE6_9.out; omega)).trans HN6.out)
     have HN8 := Lib.hid ((hm10.block b8 (Array.getElem?_eq_some_iff.1 HN8.out).1 (fun h => by have e := List.mem_singleton.1 h; have := HNE8_9.out; omega)).trans HN8.out)
     simp only [List.setIfInBounds_toArray, List.set_cons_zero, List.set_cons_succ] at hv10
     have HN9 := Lib.hid hv10
     clear hv10 hm10
     refine wpAnyH_done (by kernel_rfl) ?_ _
     have HEND := Lib.hid hHeld.2
     have HSE := Lib.hid hHeld.1
     clear hHeld
     clear HSE HSS
     go_wp2_with fail
     go_meet
     exact ⟨_, b9, b8, b2, b5, b6, rfl, rfl, HEND.out, HG2.out, HN9.out, ⟨HN8.out, HN2.out, HN5.out, HNE2_5.out⟩⟩
   ·skip
    have hmm := @run_makeMap Tryz.prog
    simp only [List.getElem_toArray, List.getElem_cons_zero, List.getElem_cons_succ]
    go_simp
    clear hmm
    obtain ⟨b6, hw6⟩ : ∃ b, y5.heap.size = b := ⟨_, rfl⟩
    obtain ⟨y6, hy6⟩ : ∃ y, y5.alloc (.map #[] 0) = y := ⟨_, rfl⟩
    rw [hy6, hw6]
    have hx6 : Below y5.heap.size y5 y6 := by rw [← hy6]; exact balloc (Below.refl _ _) _
    have HN6 : Hid (y6.heap[b6]? = some (.map #[] 0)) := Lib.hid (by rw [← hy6, ← hw6]; exact heap_alloc_new _ _)
    have HG6 : Hid (w3.heap.size ≤ b6) := Lib.hid (by have := HBE.out.size; omega)
    have HNE5_6 : Hid (b5 ≠ b6) := Lib.hid (by have := (Array.getElem?_eq_some_iff.1 HN5.out).1; omega)
    clear hy6 hw6
    have HBE := Lib.hid (bthen HBE.out hx6)
    have hSp := HSS.out _ HBE.out
    clear hHeld
    refine hK.out _ _ hSp (fun hHeld => ?_)
    clear hSp hK K
    try simp only [Act.put, List.setIfInBounds_toArray, List.set_cons_zero, List.set_cons_succ]
    have HN5 := Lib.hid ((hx6.block b5 (Array.getElem?_eq_some_iff.1 HN5.out).1).trans HN5.out)
    clear hx6
    refine wpAnyH_ready (rs := [2, 9]) (by kernel_rfl) (by simp) ?_
    refine AllReadyH.cons rfl (fun K hK => ?_) (AllReadyH.cons rfl (fun K hK => ?_) (AllReadyH.nil))
    ·skip
     have hmm := run_mkI y6 m (by omega)
     simp only [List.getElem_toArray, List.getElem_cons_zero, List.getElem_cons_succ]
     go_simp
     clear hmm
     obtain ⟨b2, hw2⟩ : ∃ b, y6.heap.size = b := ⟨_, rfl⟩
     obtain ⟨y2, hy2⟩ : ∃ y, y6.alloc (.cells (iV (List.replicate m 0)).toArray 3) = y := ⟨_, rfl⟩
     rw [hy2, hw2]
     have hx2 : Below y6.heap.size y6 y2 := by rw [← hy2]; exact balloc (Below.refl _ _) _
     have HN2 : Hid (y2.heap[b2]? = some (.cells (iV (List.replicate m 0)).toArray 3 (0, 0))) := Lib.hid (by rw [← hy2, ← hw2]; exact heap_alloc_new _ _)
     have HG2 : Hid (w3.heap.size ≤ b2) := Lib.hid (by have := HBE.out.size; omega)
     have HNE2_5 : Hid (b2 ≠ b5) := Lib.hid (by have := (Array.getElem?_eq_some_iff.1 HN5.out).1; omega)
     have HNE2_6 : Hid (b2 ≠ b6) := Lib.hid (by have := (Array.getElem?_eq_some_iff.1 HN6.out).1; omega)
     clear hy2 hw2
     have HBE := Lib.hid (bthen HBE.out hx2)
     have hSp := HSS.out _ HBE.out
     clear hHeld
     refine hK.out _ _ hSp (fun hHeld => ?_)
     clear hSp hK K
     try simp only [Act.put, List.setIfInBounds_toArray, List.set_cons_zero, List.set_cons_succ]
     have HN5 := Lib.hid ((hx2.block b5 (Array.getElem?_eq_some_iff.1 HN5.out).1).trans HN5.out)
     have HN6 := Lib.hid ((hx2.block b6 (Array.getElem?_eq_some_iff.1 HN6.out).1).trans HN6.out)
     clear hx2
     refine wpAnyH_take (i := 7) (v := .agg #[.slice (some ⟨b2, 0, none⟩) m m, .slice (some ⟨b5, 0, none⟩) k k, .map (some b6), .slice none 0 0]) rfl (by kernel_rfl) (by kernel_rfl) (by kernel_rfl) (fun _ _ _ h => h) (Or.inl ⟨by rfl, ?_⟩) (by assumption) ?_
     ·(intro w hSw; simp only [List.getElem_toArray, List.getElem_cons_zero, List.getElem_cons_succ]; (have hbu := nm_built b2 m b5 k b6; go_simp; first | done | with_reducible rfl))
     simp only [List.getElem_toArray, List.getElem_cons_zero, List.getElem_cons_succ, Act.put, List.setIfInBounds_toArray, List.set_cons_zero, List.set_cons_succ]
     refine wpAnyH_ready (rs := [8, 9]) (by kernel_rfl) (by simp) ?_
     refine AllReadyH.cons rfl (fun K hK => ?_) (AllReadyH.cons rfl (fun K hK => ?_) (AllReadyH.nil))
     ·skip
      simp only [List.getElem_toArray, List.getElem_cons_zero, List.getElem_cons_succ]
      go_simp
      obtain ⟨b8, hw8⟩ : ∃ b, y2.heap.size = b := ⟨_, rfl⟩
      obtain ⟨y8, hy8⟩ : ∃ y, y2.alloc (.cells #[.slice (some ⟨b2, 0, none⟩) m m, .slice (some ⟨b5, 0, none⟩) k k, .map (some b6), .slice none 0 0] 327) = y := ⟨_, rfl⟩
      rw [hy8, hw8]
      have hx8 : Below y2.heap.size y2 y8 := by rw [← hy8]; exact balloc (Below.refl _ _) _
      have HN8 : Hid (y8.heap[b8]? = some (.cells #[.slice (some ⟨b2, 0, none⟩) m m, .slice (some ⟨b5, 0, none⟩) k k, .map (some b6), .slice none 0 0] 327 (0, 0))) := Lib.hid (by rw [← hy8, ← hw8]; exact heap_alloc_new _ _)
      have HG8 : Hid (w3.heap.size ≤ b8) := Lib.hid (by have := HBE.out.size; omega)
      have HNE5_8 : Hid (b5 ≠ b8) := Lib.hid (by have := (Array.getElem?_eq_some_iff.1 HN5.out).1; omega)
      have HNE6_8 : Hid (b6 ≠ b8) := Lib.hid (by have := (Array.getElem?_eq_some_iff.1 HN6.out).1; omega)
      have HNE2_8 : Hid (b2 ≠ b8) := Lib.hid (by have := (Array.getElem?_eq_some_iff.1 HN2.out).1; omega)
      clear hy8 hw8
      have HBE := Lib.hid (bthen HBE.out hx8)
      have hSp := HSS.out _ HBE.out
      clear hHeld
      refine hK.out _ _ hSp (fun hHeld => ?_)
      clear hSp hK K
      try simp only [Act.put, List.setIfInBounds_toArray, List.set_cons_zero, List.set_cons_succ]
      have HN5 := Lib.hid ((hx8.block b5 (Array.getElem?_eq_some_iff.1 HN5.out).1).trans HN5.out)
      have HN6 := Lib.hid ((hx8.block b6 (Array.getElem?_eq_some_iff.1 HN6.out).1).trans HN6.out)
      have HN2 := Lib.hid ((hx8.block b2 (Array.getElem?_eq_some_iff.1 HN2.out).1).trans HN2.out)
      clear hx8
      refine wpAnyH_ready (rs := [9]) (by kernel_rfl) (by simp) ?_
      refine AllReadyH.cons rfl (fun K hK => ?_) (AllReadyH.nil)
      simp only [List.getElem_toArray, List.getElem_cons_zero, List.getElem_cons_succ]
      go_simp
      obtain ⟨b9, hw9⟩ : ∃ b, y8.heap.size = b := ⟨_, rfl⟩
      obtain ⟨y9, hy9⟩ : ∃ y, y8.alloc (.cells #[.pointer none] 323) = y := ⟨_, rfl⟩
      rw [hy9, hw9]
      have hx9 : Below y8.heap.size y8 y9 := by rw [← hy9]; exact balloc (Below.refl _ _) _
      have HN9 : Hid (y9.heap[b9]? = some (.cells #[.pointer none] 323 (0, 0))) := Lib.hid (by rw [← hy9, ← hw9]; exact heap_alloc_new _ _)
      have HG9 : Hid (w3.heap.size ≤ b9) := Lib.hid (by have := HBE.out.size; omega)
      have HNE5_9 : Hid (b5 ≠ b9) := Lib.hid (by have := (Array.getElem?_eq_some_iff.1 HN5.out).1; omega)
      have HNE6_9 : Hid (b6 ≠ b9) := Lib.hid (by have := (Array.getElem?_eq_some_iff.1 HN6.out).1; omega)
      have HNE2_9 : Hid (b2 ≠ b9) := Lib.hid (by have := (Array.getElem?_eq_some_iff.1 HN2.out).1; omega)
      have HNE8_9 : Hid (b8 ≠ b9) := Lib.hid (by have := (Array.getElem?_eq_some_iff.1 HN8.out).1; omega)
      clear hy9 hw9
      have HBE := Lib.hid (bthen HBE.out hx9)
      have hSp := HSS.out _ HBE.out
      clear hHeld
      refine hK.out _ _ hSp (fun hHeld => ?_)
      clear hSp hK K
      try simp only [Act.put, List.setIfInBounds_toArray, List.set_cons_zero, List.set_cons_succ]
      have HN5 := Lib.hid ((hx9.block b5 (Array.getElem?_eq_some_iff.1 HN5.out).1).trans HN5.out)
      have HN6 := Lib.hid ((hx9.block b6 (Array.getElem?_eq_some_iff.1 HN6.out).1).trans HN6.out)
      have HN2 := Lib.hid ((hx9.block b2 (Array.getElem?_eq_some_iff.1 HN2.out).1).trans HN2.out)
      have HN8 := Lib.hid ((hx9.block b8 (Array.getElem?_eq_some_iff.1 HN8.out).1).trans HN8.out)
      clear hx9
      refine wpAnyH_ready (rs := [10]) (by kernel_rfl) (by simp) ?_
      refine AllReadyH.cons rfl (fun K hK => ?_) (AllReadyH.nil)
      have hc10_0 := cellOf HN9.out 0 rfl
      have hf10_0 := frozenOf HN9.out 0
      simp only [List.getElem_toArray, List.getElem_cons_zero, List.getElem_cons_succ]
      go_simp
      obtain ⟨y10, hy10⟩ : ∃ y, (y9.setCell ⟨b9, 0, none⟩ (.pointer (some ⟨b8, 0, none⟩))) = y := ⟨_, rfl⟩
      rw [hy10]
      have hm10 : Mods [b9] y9 y10 := by rw [← hy10]; exact (Mods.refl [b9] y9).setCell (p := ⟨b9, 0, none⟩) (by simp) _
      have hv10 := setOf (HN9.out) 0 (.pointer (some ⟨b8, 0, none⟩))
      rw [hy10] at hv10
      clear hy10 hc10_0 hf10_0
      have HBE : Hid (Below w3.heap.size w3 y10) := Lib.hid (HBE.out.trans (hm10.below (fun k hk => by have := HG9.out; have e := List.mem_singleton.1 hk; omega) HBE.out.size))
      have hSp := HSS.out _ HBE.out
      clear hHeld
      refine hK.out _ _ hSp (fun hHeld => ?_)
      clear hSp hK K
      try simp only [Act.put, List.setIfInBounds_toArray, List.set_cons_zero, List.set_cons_succ]
      have HN5 := Lib.hid ((hm10.block b5 (Array.getElem?_eq_some_iff.1 HN5.out).1 (fun h => by have e := List.mem_singleton.1 h; have := HNE5_9.out; omega)).trans HN5.out)
      have HN6 := Lib.hid ((hm10.block b6 (Array.getElem?_eq_some_iff.1 HN6.out).1 (fun h => by have e := List.mem_singleton.1 h; have := HNE6_9.out; omega)).trans HN6.out)
      have HN2 := Lib.hid ((hm10.block b2 (Array.getElem?_eq_some_iff.1 HN2.out).1 (fun h => by have e := List.mem_singleton.1 h; have := HNE2_9.out; omega)).trans HN2.out)
      have HN8 := Lib.hid ((hm10.block b8 (Array.getElem?_eq_some_iff.1 HN8.out).1 (fun h => by have e := List.mem_singleton.1 h; have := HNE8_9.out; omega)).trans HN8.out)
      simp only [List.setIfInBounds_toArray, List.set_cons_zero, List.set_cons_succ] at hv10
      have HN9 := Lib.hid hv10
      clear hv10 hm10
      refine wpAnyH_done (by kernel_rfl) ?_ _
      have HEND := Lib.hid hHeld.2
      have HSE := Lib.hid hHeld.1
      clear hHeld
      clear HSE HSS
      go_wp2_with fail
      go_meet
      exact ⟨_, b9, b8, b2, b5, b6, rfl, rfl, HEND.out, HG2.out, HN9.out, ⟨HN8.out, HN2.out, HN5.out, HNE2_5.out⟩⟩
     ·skip
      simp only [List.getElem_toArray, List.getElem_cons_zero, List.getElem_cons_succ]
      go_simp
      obtain ⟨b9, hw9⟩ : ∃ b, y2.heap.size = b := ⟨_, rfl⟩
      obtain ⟨y9, hy9⟩ : ∃ y, y2.alloc (.cells #[.pointer none] 323) = y := ⟨_, rfl⟩
      rw [hy9, hw9]
      have hx9 : Below y2.heap.size y2 y9 := by rw [← hy9]; exact balloc (Below.refl _ _) _
      have HN9 : Hid (y9.heap[b9]? = some (.cells #[.pointer none] 323 (0, 0))) := Lib.hid (by rw [← hy9, ← hw9]; exact heap_alloc_new _ _)
      have HG9 : Hid (w3.heap.size ≤ b9) := Lib.hid (by have := HBE.out.size; omega)
      have HNE5_9 : Hid (b5 ≠ b9) := Lib.hid (by have := (Array.getElem?_eq_some_iff.1 HN5.out).1; omega)
      have HNE6_9 : Hid (b6 ≠ b9) := Lib.hid (by have := (Array.getElem?_eq_some_iff.1 HN6.out).1; omega)
      have HNE2_9 : Hid (b2 ≠ b9) := Lib.hid (by have := (Array.getElem?_eq_some_iff.1 HN2.out).1; omega)
      clear hy9 hw9
      have HBE := Lib.hid (bthen HBE.out hx9)
      have hSp := HSS.out _ HBE.out
      clear hHeld
      refine hK.out _ _ hSp (fun hHeld => ?_)
      clear hSp hK K
      try simp only [Act.put, List.setIfInBounds_toArray, List.set_cons_zero, List.set_cons_succ]
      have HN5 := Lib.hid ((hx9.block b5 (Array.getElem?_eq_some_iff.1 HN5.out).1).trans HN5.out)
      have HN6 := Lib.hid ((hx9.block b6 (Array.getElem?_eq_some_iff.1 HN6.out).1).trans HN6.out)
      have HN2 := Lib.hid ((hx9.block b2 (Array.getElem?_eq_some_iff.1 HN2.out).1).trans HN2.out)
      clear hx9
      refine wpAnyH_ready (rs := [8]) (by kernel_rfl) (by simp) ?_
      refine AllReadyH.cons rfl (fun K hK => ?_) (AllReadyH.nil)
      simp only [List.getElem_toArray, List.getElem_cons_zero, List.getElem_cons_succ]
      go_simp
      obtain ⟨b8, hw8⟩ : ∃ b, y9.heap.size = b := ⟨_, rfl⟩
      obtain ⟨y8, hy8⟩ : ∃ y, y9.alloc (.cells #[.slice (some ⟨b2, 0, none⟩) m m, .slice (some ⟨b5, 0, none⟩) k k, .map (some b6), .slice none 0 0] 327) = y := ⟨_, rfl⟩
      rw [hy8, hw8]
      have hx8 : Below y9.heap.size y9 y8 := by rw [← hy8]; exact balloc (Below.refl _ _) _
      have HN8 : Hid (y8.heap[b8]? = some (.cells #[.slice (some ⟨b2, 0, none⟩) m m, .slice (some ⟨b5, 0, none⟩) k k, .map (some b6), .slice none 0 0] 327 (0, 0))) := Lib.hid (by rw [← hy8, ← hw8]; exact heap_alloc_new _ _)
      have HG8 : Hid (w3.heap.size ≤ b8) := Lib.hid (by have := HBE.out.size; omega)
      have HNE5_8 : Hid (b5 ≠ b8) := Lib.hid (by have := (Array.getElem?_eq_some_iff.1 HN5.out).1; omega)
      have HNE6_8 : Hid (b6 ≠ b8) := Lib.hid (by have := (Array.getElem?_eq_some_iff.1 HN6.out).1; omega)
      have HNE2_8 : Hid (b2 ≠ b8) := Lib.hid (by have := (Array.getElem?_eq_some_iff.1 HN2.out).1; omega)
      have HNE8_9 : Hid (b8 ≠ b9) := Lib.hid (by have := (Array.getElem?_eq_some_iff.1 HN9.out).1; omega)
      clear hy8 hw8
      have HBE := Lib.hid (bthen HBE.out hx8)
      have hSp := HSS.out _ HBE.out
      clear hHeld
      refine hK.out _ _ hSp (fun hHeld => ?_)
      clear hSp hK K
      try simp only [Act.put, List.setIfInBounds_toArray, List.set_cons_zero, List.set_cons_succ]
      have HN5 := Lib.hid ((hx8.block b5 (Array.getElem?_eq_some_iff.1 HN5.out).1).trans HN5.out)
      have HN6 := Lib.hid ((hx8.block b6 (Array.getElem?_eq_some_iff.1 HN6.out).1).trans HN6.out)
      have HN2 := Lib.hid ((hx8.block b2 (Array.getElem?_eq_some_iff.1 HN2.out).1).trans HN2.out)
      have HN9 := Lib.hid ((hx8.block b9 (Array.getElem?_eq_some_iff.1 HN9.out).1).trans HN9.out)
      clear hx8
      refine wpAnyH_ready (rs := [10]) (by kernel_rfl) (by simp) ?_
      refine AllReadyH.cons rfl (fun K hK => ?_) (AllReadyH.nil)
      have hc10_0 := cellOf HN9.out 0 rfl
      have hf10_0 := frozenOf HN9.out 0
      simp only [List.getElem_toArray, List.getElem_cons_zero, List.getElem_cons_succ]
      go_simp
      obtain ⟨y10, hy10⟩ : ∃ y, (y8.setCell ⟨b9, 0, none⟩ (.pointer (some ⟨b8, 0, none⟩))) = y := ⟨_, rfl⟩
      rw [hy10]
      have hm10 : Mods [b9] y8 y10 := by rw [← hy10]; exact (Mods.refl [b9] y8).setCell (p := ⟨b9, 0, none⟩) (by simp) _
      have hv10 := setOf (HN9.out) 0 (.pointer (some ⟨b8, 0, none⟩))
      rw [hy10] at hv10
      clear hy10 hc10_0 hf10_0
      have HBE : Hid (Below w3.heap.size w3 y10) := Lib.hid (HBE.out.trans (hm10.below (fun k hk => by have := HG9.out; have e := List.mem_singleton.1 hk; omega) HBE.out.size))
      have hSp := HSS.out _ HBE.out
      clear hHeld
      refine hK.out _ _ hSp (fun hHeld => ?_)
      clear hSp hK K
      try simp only [Act.put, List.setIfInBounds_toArray, List.set_cons_zero, List.set_cons_succ]
      have HN5 := Lib.hid ((hm10.block b5 (Array.getElem?_eq_some_iff.1 HN5.out).1 (fun h => by have e := List.mem_singleton.1 h; have := HNE5_9.out; omega)).trans HN5.out)
      have HN6 := Lib.hid ((hm10.block b6 (Array.getElem?_eq_some_iff.1 HN6.out).1 (fun h => by have e := List.mem_singleton.1 h; have := HNE6_9.out; omega)).trans HN6.out)
      have HN2 := Lib.hid ((hm10.block b2 (Array.getElem?_eq_some_iff.1 HN2.out).1 (fun h => by have e := List.mem_singleton.1 h; have := HNE2_9.out; omega)).trans HN2.out)
      have HN8 := Lib.hid ((hm10.block b8 (Array.getElem?_eq_some_iff.1 HN8.out).1 (fun h => by have e := List.mem_singleton.1 h; have := HNE8_9.out; omega)).trans HN8.out)
      simp only [List.setIfInBounds_toArray, List.set_cons_zero, List.set_cons_succ] at hv10
      have HN9 := Lib.hid hv10
      clear hv10 hm10
      refine wpAnyH_done (by kernel_rfl) ?_ _
      have HEND := Lib.hid hHeld.2
      have HSE := Lib.hid hHeld.1
      clear hHeld
      clear HSE HSS
      go_wp2_with fail
      go_meet
      exact ⟨_, b9, b8, b2, b5, b6, rfl, rfl, HEND.out, HG2.out, HN9.out, ⟨HN8.out, HN2.out, HN5.out, HNE2_5.out⟩⟩
    ·skip
     simp only [List.getElem_toArray, List.getElem_cons_zero, List.getElem_cons_succ]
     go_simp
     obtain ⟨b9, hw9⟩ : ∃ b, y6.heap.size = b := ⟨_, rfl⟩
     obtain ⟨y9, hy9⟩ : ∃ y, y6.alloc (.cells #[.pointer none] 323) = y := ⟨_, rfl⟩
     rw [hy9, hw9]
     have hx9 : Below y6.heap.size y6 y9 := by rw [← hy9]; exact balloc (Below.refl _ _) _
     have HN9 : Hid (y9.heap[b9]? = some (.cells #[.pointer none] 323 (0, 0))) := Lib.hid (by rw [← hy9, ← hw9]; exact heap_alloc_new _ _)
     have HG9 : Hid (w3.heap.size ≤ b9) := Lib.hid (by have := HBE.out.size; omega)
     have HNE5_9 : Hid (b5 ≠ b9) := Lib.hid (by have := (Array.getElem?_eq_some_iff.1 HN5.out).1; omega)
     have HNE6_9 : Hid (b6 ≠ b9) := Lib.hid (by have := (Array.getElem?_eq_some_iff.1 HN6.out).1; omega)
     clear hy9 hw9
     have HBE := Lib.hid (bthen HBE.out hx9)
     have hSp := HSS.out _ HBE.out
     clear hHeld
     refine hK.out _ _ hSp (fun hHeld => ?_)
     clear hSp hK K
     try simp only [Act.put, List.setIfInBounds_toArray, List.set_cons_zero, List.set_cons_succ]
     have HN5 := Lib.hid ((hx9.block b5 (Array.getElem?_eq_some_iff.1 HN5.out).1).trans HN5.out)
     have HN6 := Lib.hid ((hx9.block b6 (Array.getElem?_eq_some_iff.1 HN6.out).1).trans HN6.out)
     clear hx9
     refine wpAnyH_ready (rs := [2]) (by kernel_rfl) (by simp) ?_
     refine AllReadyH.cons rfl (fun K hK => ?_) (AllReadyH.nil)
     have hmm := run_mkI y9 m (by omega)
     simp only [List.getElem_toArray, List.getElem_cons_zero, List.getElem_cons_succ]
     go_simp
     clear hmm
     obtain ⟨b2, hw2⟩ : ∃ b, y9.heap.size = b := ⟨_, rfl⟩
     obtain ⟨y2, hy2⟩ : ∃ y, y9.alloc (.cells (iV (List.replicate m 0)).toArray 3) = y := ⟨_, rfl⟩
     rw [hy2, hw2]
     have hx2 : Below y9.heap.size y9 y2 := by rw [← hy2]; exact balloc (Below.refl _ _) _
     have HN2 : Hid (y2.heap[b2]? = some (.cells (iV (List.replicate m 0)).toArray 3 (0, 0))) := Lib.hid (by rw [← hy2, ← hw2]; exact heap_alloc_new _ _)
     have HG2 : Hid (w3.heap.size ≤ b2) := Lib.hid (by have := HBE.out.size; omega)
     have HNE2_5 : Hid (b2 ≠ b5) := Lib.hid (by have := (Array.getElem?_eq_some_iff.1 HN5.out).1; omega)
     have HNE2_6 : Hid (b2 ≠ b6) := Lib.hid (by have := (Array.getElem?_eq_some_iff.1 HN6.out).1; omega)
     have HNE2_9 : Hid (b2 ≠ b9) := Lib.hid (by have := (Array.getElem?_eq_some_iff.1 HN9.out).1; omega)
     clear hy2 hw2
     have HBE := Lib.hid (bthen HBE.out hx2)
     have hSp := HSS.out _ HBE.out
     clear hHeld
     refine hK.out _ _ hSp (fun hHeld => ?_)
     clear hSp hK K
     try simp only [Act.put, List.setIfInBounds_toArray, List.set_cons_zero, List.set_cons_succ]
     have HN5 := Lib.hid ((hx2.block b5 (Array.getElem?_eq_some_iff.1 HN5.out).1).trans HN5.out)
     have HN6 := Lib.hid ((hx2.block b6 (Array.getElem?_eq_some_iff.1 HN6.out).1).trans HN6.out)
     have HN9 := Lib.hid ((hx2.block b9 (Array.getElem?_eq_some_iff.1 HN9.out).1).trans HN9.out)
     clear hx2
     refine wpAnyH_take (i := 7) (v := .agg #[.slice (some ⟨b2, 0, none⟩) m m, .slice (some ⟨b5, 0, none⟩) k k, .map (some b6), .slice none 0 0]) rfl (by kernel_rfl) (by kernel_rfl) (by kernel_rfl) (fun _ _ _ h => h) (Or.inl ⟨by rfl, ?_⟩) (by assumption) ?_
     ·(intro w hSw; simp only [List.getElem_toArray, List.getElem_cons_zero, List.getElem_cons_succ]; (have hbu := nm_built b2 m b5 k b6; go_simp; first | done | with_reducible rfl))
     simp only [List.getElem_toArray, List.getElem_cons_zero, List.getElem_cons_succ, Act.put, List.setIfInBounds_toArray, List.set_cons_zero, List.set_cons_succ]
     refine wpAnyH_ready (rs := [8]) (by kernel_rfl) (by simp) ?_
     refine AllReadyH.cons rfl (fun K hK => ?_) (AllReadyH.nil)
     simp only [List.getElem_toArray, List.getElem_cons_zero, List.getElem_cons_succ]
     go_simp
     obtain ⟨b8, hw8⟩ : ∃ b, y2.heap.size = b := ⟨_, rfl⟩
     obtain ⟨y8, hy8⟩ : ∃ y, y2.alloc (.cells #[.slice (some ⟨b2, 0, none⟩) m m, .slice (some ⟨b5, 0, none⟩) k k, .map (some b6), .slice none 0 0] 327) = y := ⟨_, rfl⟩
     rw [hy8, hw8]
     have hx8 : Below y2.heap.size y2 y8 := by rw [← hy8]; exact balloc (Below.refl _ _) _
     have HN8 : Hid (y8.heap[b8]? = some (.cells #[.slice (some ⟨b2, 0, none⟩) m m, .slice (some ⟨b5, 0, none⟩) k k, .map (some b6), .slice none 0 0] 327 (0, 0))) := Lib.hid (by rw [← hy8, ← hw8]; exact heap_alloc_new _ _)
     have HG8 : Hid (w3.heap.size ≤ b8) := Lib.hid (by have := HBE.out.size; omega)
     have HNE5_8 : Hid (b5 ≠ b8) := Lib.hid (by have := (Array.getElem?_eq_some_iff.1 HN5.out).1; omega)
     have HNE6_8 : Hid (b6 ≠ b8) := Lib.hid (by have := (Array.getElem?_eq_some_iff.1 HN6.out).1; omega)
     have HNE8_9 : Hid (b8 ≠ b9) := Lib.hid (by have := (Array.getElem?_eq_some_iff.1 HN9.out).1; omega)
     have HNE2_8 : Hid (b2 ≠ b8) := Lib.hid (by have := (Array.getElem?_eq_some_iff.1 HN2.out).1; omega)
     clear hy8 hw8
     have HBE := Lib.hid (bthen HBE.out hx8)
     have hSp := HSS.out _ HBE.out
     clear hHeld
     refine hK.out _ _ hSp (fun hHeld => ?_)
     clear hSp hK K
     try simp only [Act.put, List.setIfInBounds_toArray, List.set_cons_zero, List.set_cons_succ]
     have HN5 := Lib.hid ((hx8.block b5 (Array.getElem?_eq_some_iff.1 HN5.out).1).trans HN5.out)
     have HN6 := Lib.hid ((hx8.block b6 (Array.getElem?_eq_some_iff.1 HN6.out).1).trans HN6.out)
     have HN9 := Lib.hid ((hx8.block b9 (Array.getElem?_eq_some_iff.1 HN9.out).1).trans HN9.out)
     have HN2 := Lib.hid ((hx8.block b2 (Array.getElem?_eq_some_iff.1 HN2.out).1).trans HN2.out)
     clear hx8
     refine wpAnyH_ready (rs := [10]) (by kernel_rfl) (by simp) ?_
     refine AllReadyH.cons rfl (fun K hK => ?_) (AllReadyH.nil)
     have hc10_0 := cellOf HN9.out 0 rfl
     have hf10_0 := frozenOf HN9.out 0
     simp only [List.getElem_toArray, List.getElem_cons_zero, List.getElem_cons_succ]
     go_simp
     obtain ⟨y10, hy10⟩ : ∃ y, (y8.setCell ⟨b9, 0, none⟩ (.pointer (some ⟨b8, 0, none⟩))) = y := ⟨_, rfl⟩
     rw [hy10]
     have hm10 : Mods [b9] y8 y10 := by rw [← hy10]; exact (Mods.refl [b9] y8).setCell (p := ⟨b9, 0, none⟩) (by simp) _
     have hv10 := setOf (HN9.out) 0 (.pointer (some ⟨b8, 0, none⟩))
     rw [hy10] at hv10
     clear hy10 hc10_0 hf10_0
     have HBE : Hid (Below w3.heap.size w3 y10) := Lib.hid (HBE.out.trans (hm10.below (fun k hk => by have := HG9.out; have e := List.mem_singleton.1 hk; omega) HBE.out.size))
     have hSp := HSS.out _ HBE.out
     clear hHeld
     refine hK.out _ _ hSp (fun hHeld => ?_)
     clear hSp hK K
     try simp only [Act.put, List.setIfInBounds_toArray, List.set_cons_zero, List.set_cons_succ]
     have HN5 := Lib.hid ((hm10.block b5 (Array.getElem?_eq_some_iff.1 HN5.out).1 (fun h => by have e := List.mem_singleton.1 h; have := HNE5_9.out; omega)).trans HN5.out)
     have HN6 := Lib.hid ((hm10.block b6 (Array.getElem?_eq_some_iff.1 HN6.out).1 (fun h => by have e := List.mem_singleton.1 h; have := HNE6_9.out; omega)).trans HN6.out)
     have HN2 := Lib.hid ((hm10.block b2 (Array.getElem?_eq_some_iff.1 HN2.out).1 (fun h => by have e := List.mem_singleton.1 h; have := HNE2_9.out; omega)).trans HN2.out)
     have HN8 := Lib.hid ((hm10.block b8 (Array.getElem?_eq_some_iff.1 HN8.out).1 (fun h => by have e := List.mem_singleton.1 h; have := HNE8_9.out; omega)).trans HN8.out)
     simp only [List.setIfInBounds_toArray, List.set_cons_zero, List.set_cons_succ] at hv10
     have HN9 := Lib.hid hv10
     clear hv10 hm10
     refine wpAnyH_done (by kernel_rfl) ?_ _
     have HEND := Lib.hid hHeld.2
     have HSE := Lib.hid hHeld.1
     clear hHeld
     clear HSE HSS
     go_wp2_with fail
     go_meet
     exact ⟨_, b9, b8, b2, b5, b6, rfl, rfl, HEND.out, HG2.out, HN9.out, ⟨HN8.out, HN2.out, HN5.out, HNE2_5.out⟩⟩
   ·skip
    simp only [List.getElem_toArray, List.getElem_cons_zero, List.getElem_cons_succ]
    go_simp
    obtain ⟨b9, hw9⟩ : ∃ b, y5.heap.size = b := ⟨_, rfl⟩
    obtain ⟨y9, hy9⟩ : ∃ y, y5.alloc (.cells #[.pointer none] 323) = y := ⟨_, rfl⟩
    rw [hy9, hw9]
    have hx9 : Below y5.heap.size y5 y9 := by rw [← hy9]; exact balloc (Below.refl _ _) _
    have HN9 : Hid (y9.heap[b9]? = some (.cells #[.pointer none] 323 (0, 0))) := Lib.hid (by rw [← hy9, ← hw9]; exact heap_alloc_new _ _)
    have HG9 : Hid (w3.heap.size ≤ b9) := Lib.hid (by have := HBE.out.size; omega)
    have HNE5_9 : Hid (b5 ≠ b9) := Lib.hid (by have := (Array.getElem?_eq_some_iff.1 HN5.out).1; omega)
    clear hy9 hw9
    have HBE := Lib.hid (bthen HBE.out hx9)
    have hSp := HSS.out _ HBE.out
    clear hHeld
    refine hK.out _ _ hSp (fun hHeld => ?_)
    clear hSp hK K
    try simp only [Act.put, List.setIfInBounds_toArray, List.set_cons_zero, List.set_cons_succ]
    have HN5 := Lib.hid ((hx9.block b5 (Array.getElem?_eq_some_iff.1 HN5.out).1).trans HN5.out)
    clear hx9
    refine wpAnyH_ready (rs := [2, 6]) (by kernel_rfl) (by simp) ?_
    refine AllReadyH.cons rfl (fun K hK => ?_) (AllReadyH.cons rfl (fun K hK => ?_) (AllReadyH.nil))
    ·skip
     have hmm := run_mkI y9 m (by omega)
     simp only [List.getElem_toArray, List.getElem_cons_zero, List.getElem_cons_succ]
     go_simp
     clear hmm
     obtain ⟨b2, hw2⟩ : ∃ b, y9.heap.size = b := ⟨_, rfl⟩
     obtain ⟨y2, hy2⟩ : ∃ y, y9.alloc (.cells (iV (List.replicate m 0)).toArray 3) = y := ⟨_, rfl⟩
     rw [hy2, hw2]
     have hx2 : Below y9.heap.size y9 y2 := by rw [← hy2]; exact balloc (Below.refl _ _) _
     have HN2 : Hid (y2.heap[b2]? = some (.cells (iV (List.replicate m 0)).toArray 3 (0, 0))) := Lib.hid (by rw [← hy2, ← hw2]; exact heap_alloc_new _ _)
     have HG2 : Hid (w3.heap.size ≤ b2) := Lib.hid (by have := HBE.out.size; omega)
     have HNE2_5 : Hid (b2 ≠ b5) := Lib.hid (by have := (Array.getElem?_eq_some_iff.1 HN5.out).1; omega)
     have HNE2_9 : Hid (b2 ≠ b9) := Lib.hid (by have := (Array.getElem?_eq_some_iff.1 HN9.out).1; omega)
     clear hy2 hw2
     have HBE := Lib.hid (bthen HBE.out hx2)
     have hSp := HSS.out _ HBE.out
     clear hHeld
     refine hK.out _ _ hSp (fun hHeld => ?_)
     clear hSp hK K
     try simp only [Act.put, List.setIfInBounds_toArray, List.set_cons_zero, List.set_cons_succ]
     have HN5 := Lib.hid ((hx2.block b5 (Array.getElem?_eq_some_iff.1 HN5.out).1).trans HN5.out)
     have HN9 := Lib.hid ((hx2.block b9 (Array.getElem?_eq_some_iff.1 HN9.out).1).trans HN9.out)
     clear hx2
     refine wpAnyH_ready (rs := [6]) (by kernel_rfl) (by simp) ?_
     refine AllReadyH.cons rfl (fun K hK => ?_) (AllReadyH.nil)
     have hmm := @run_makeMap Tryz.prog
     simp only [List.getElem_toArray, List.getElem_cons_zero, List.getElem_cons_succ]
     go_simp
     clear hmm
     obtain ⟨b6, hw6⟩ : ∃ b, y2.heap.size = b := ⟨_, rfl⟩
     obtain ⟨y6, hy6⟩ : ∃ y, y2.alloc (.map #[] 0) = y := ⟨_, rfl⟩
     rw [hy6, hw6]
     have hx6 : Below y2.heap.size y2 y6 := by rw [← hy6]; exact balloc (Below.refl _ _) _
     have HN6 : Hid (y6.heap[b6]? = some (.map #[] 0)) := Lib.hid (by rw [← hy6, ← hw6]; exact heap_alloc_new _ _)
     have HG6 : Hid (w3.heap.size ≤ b6) := Lib.hid (by have := HBE.out.size; omega)
     have HNE5_6 : Hid (b5 ≠ b6) := Lib.hid (by have := (Array.getElem?_eq_some_iff.1 HN5.out).1; omega)
     have HNE6_9 : Hid (b6 ≠ b9) := Lib.hid (by have := (Array.getElem?_eq_some_iff.1 HN9.out).1; omega)
     have HNE2_6 : Hid (b2 ≠ b6) := Lib.hid (by have := (Array.getElem?_eq_some_iff.1 HN2.out).1; omega)
     clear hy6 hw6
     have HBE := Lib.hid (bthen HBE.out hx6)
     have hSp := HSS.out _ HBE.out
     clear hHeld
     refine hK.out _ _ hSp (fun hHeld => ?_)
     clear hSp hK K
     try simp only [Act.put, List.setIfInBounds_toArray, List.set_cons_zero, List.set_cons_succ]
     have HN5 := Lib.hid ((hx6.block b5 (Array.getElem?_eq_some_iff.1 HN5.out).1).trans HN5.out)
     have HN9 := Lib.hid ((hx6.block b9 (Array.getElem?_eq_some_iff.1 HN9.out).1).trans HN9.out)
     have HN2 := Lib.hid ((hx6.block b2 (Array.getElem?_eq_some_iff.1 HN2.out).1).trans HN2.out)
     clear hx6
     refine wpAnyH_take (i := 7) (v := .agg #[.slice (some ⟨b2, 0, none⟩) m m, .slice (some ⟨b5, 0, none⟩) k k, .map (some b6), .slice none 0 0]) rfl (by kernel_rfl) (by kernel_rfl) (by kernel_rfl) (fun _ _ _ h => h) (Or.inl ⟨by rfl, ?_⟩) (by assumption) ?_
     ·(intro w hSw; simp only [List.getElem_toArray, List.getElem_cons_zero, List.getElem_cons_succ]; (have hbu := nm_built b2 m b5 k b6; go_simp; first | done | with_reducible rfl))
     simp only [List.getElem_toArray, List.getElem_cons_zero, List.getElem_cons_succ, Act.put, List.setIfInBounds_toArray, List.set_cons_zero, List.set_cons_succ]
     refine wpAnyH_ready (rs := [8]) (by kernel_rfl) (by simp) ?_
     refine AllReadyH.cons rfl (fun K hK => ?_) (AllReadyH.nil)
     simp only [List.getElem_toArray, List.getElem_cons_zero, List.getElem_cons_succ]
     go_simp
     obtain ⟨b8, hw8⟩ : ∃ b, y6.heap.size = b := ⟨_, rfl⟩
     obtain ⟨y8, hy8⟩ : ∃ y, y6.alloc (.cells #[.slice (some ⟨b2, 0, none⟩) m m, .slice (some ⟨b5, 0, none⟩) k k, .map (some b6), .slice none 0 0] 327) = y := ⟨_, rfl⟩
     rw [hy8, hw8]
     have hx8 : Below y6.heap.size y6 y8 := by rw [← hy8]; exact balloc (Below.refl _ _) _
     have HN8 : Hid (y8.heap[b8]? = some (.cells #[.slice (some ⟨b2, 0, none⟩) m m, .slice (some ⟨b5, 0, none⟩) k k, .map (some b6), .slice none 0 0] 327 (0, 0))) := Lib.hid (by rw [← hy8, ← hw8]; exact heap_alloc_new _ _)
     have HG8 : Hid (w3.heap.size ≤ b8) := Lib.hid (by have := HBE.out.size; omega)
     have HNE5_8 : Hid (b5 ≠ b8) := Lib.hid (by have := (Array.getElem?_eq_some_iff.1 HN5.out).1; omega)
     have HNE8_9 : Hid (b8 ≠ b9) := Lib.hid (by have := (Array.getElem?_eq_some_iff.1 HN9.out).1; omega)
     have HNE2_8 : Hid (b2 ≠ b8) := Lib.hid (by have := (Array.getElem?_eq_some_iff.1 HN2.out).1; omega)
     have HNE6_8 : Hid (b6 ≠ b8) := Lib.hid (by have := (Array.getElem?_eq_some_iff.1 HN6.out).1; omega)
     clear hy8 hw8
     have HBE := Lib.hid (bthen HBE.out hx8)
     have hSp := HSS.out _ HBE.out
     clear hHeld
     refine hK.out _ _ hSp (fun hHeld => ?_)
     clear hSp hK K
     try simp only [Act.put, List.setIfInBounds_toArray, List.set_cons_zero, List.set_cons_succ]
     have HN5 := Lib.hid ((hx8.block b5 (Array.getElem?_eq_some_iff.1 HN5.out).1).trans HN5.out)
     have HN9 := Lib.hid ((hx8.block b9 (Array.getElem?_eq_some_iff.1 HN9.out).1).trans HN9.out)
     have HN2 := Lib.hid ((hx8.block b2 (Array.getElem?_eq_some_iff.1 HN2.out).1).trans HN2.out)
     have HN6 := Lib.hid ((hx8.block b6 (Array.getElem?_eq_some_iff.1 HN6.out).1).trans HN6.out)
     clear hx8
     refine wpAnyH_ready (rs := [10]) (by kernel_rfl) (by simp) ?_
     refine AllReadyH.cons rfl (fun K hK => ?_) (AllReadyH.nil)
     have hc10_0 := cellOf HN9.out 0 rfl
     have hf10_0 := frozenOf HN9.out 0
     simp only [List.getElem_toArray, List.getElem_cons_zero, List.getElem_cons_succ]
     go_simp
     obtain ⟨y10, hy10⟩ : ∃ y, (y8.setCell ⟨b9, 0, none⟩ (.pointer (some ⟨b8, 0, none⟩))) = y := ⟨_, rfl⟩
     rw [hy10]
     have hm10 : Mods [b9] y8 y10 := by rw [← hy10]; exact (Mods.refl [b9] y8).setCell (p := ⟨b9, 0, none⟩) (by simp) _
     have hv10 := setOf (HN9.out) 0 (.pointer (some ⟨b8, 0, none⟩))
     rw [hy10] at hv10
     clear hy10 hc10_0 hf10_0
     have HBE : Hid (Below w3.heap.size w3 y10) := Lib.hid (HBE.out.trans (hm10.below (fun k hk => by have := HG9.out; have e := List.mem_singleton.1 hk; omega) HBE.out.size))
     have hSp := HSS.out _ HBE.out
     clear hHeld
     refine hK.out _ _ hSp (fun hHeld => ?_)
     clear hSp hK K
     try simp only [Act.put, List.setIfInBounds_toArray, List.set_cons_zero, List.set_cons_succ]
     have HN5 := Lib.hid ((hm10.block b5 (Array.getElem?_eq_some_iff.1 HN5.out).1 (fun h => by have e := List.mem_singleton.1 h; have := HNE5_9.out; omega)).trans HN5.out)
     have HN2 := Lib.hid ((hm10.block b2 (Array.getElem?_eq_some_iff.1 HN2.out).1 (fun h => by have e := List.mem_singleton.1 h; have := HNE2_9.out; omega)).trans HN2.out)
     have HN6 := Lib.hid ((hm10.block b6 (Array.getElem?_eq_some_iff.1 HN6.out).1 (fun h => by have e := List.mem_singleton.1 h; have := HNE6_9.out; omega)).trans HN6.out)
     have HN8 := Lib.hid ((hm10.block b8 (Array.getElem?_eq_some_iff.1 HN8.out).1 (fun h => by have e := List.mem_singleton.1 h; have := HNE8_9.out; omega)).trans HN8.out)
     simp only [List.setIfInBounds_toArray, List.set_cons_zero, List.set_cons_succ] at hv10
     have HN9 := Lib.hid hv10
     clear hv10 hm10
     refine wpAnyH_done (by kernel_rfl) ?_ _
     have HEND := Lib.hid hHeld.2
     have HSE := Lib.hid hHeld.1
     clear hHeld
     clear HSE HSS
     go_wp2_with fail
     go_meet
     exact ⟨_, b9, b8, b2, b5, b6, rfl, rfl, HEND.out, HG2.out, HN9.out, ⟨HN8.out, HN2.out, HN5.out, HNE2_5.out⟩⟩
    ·skip
     have hmm := @run_makeMap Tryz.prog
     simp only [List.getElem_toArray, List.getElem_cons_zero, List.getElem_cons_succ]
     go_simp
     clear hmm
     obtain ⟨b6, hw6⟩ : ∃ b, y9.heap.size = b := ⟨_, rfl⟩
     obtain ⟨y6, hy6⟩ : ∃ y, y9.alloc (.map #[] 0) = y := ⟨_, rfl⟩
     rw [hy6, hw6]
     have hx6 : Below y9.heap.size y9 y6 := by rw [← hy6]; exact balloc (Below.refl _ _) _
     have HN6 : Hid (y6.heap[b6]? = some (.map #[] 0)) := Lib.hid (by rw [← hy6, ← hw6]; exact heap_alloc_new _ _)
     have HG6 : Hid (w3.heap.size ≤ b6) := Lib.hid (by have := HBE.out.size; omega)
     have HNE5_6 : Hid (b5 ≠ b6) := Lib.hid (by have := (Array.getElem?_eq_some_iff.1 HN5.out).1; omega)
     have HNE6_9 : Hid (b6 ≠ b9) := Lib.hid (by have := (Array.getElem?_eq_some_iff.1 HN9.out).1; omega)
     clear hy6 hw6
     have HBE := Lib.hid (bthen HBE.out hx6)
     have hSp := HSS.out _ HBE.out
     clear hHeld
     refine hK.out _ _ hSp (fun hHeld => ?_)
     clear hSp hK K
     try simp only [Act.put, List.setIfInBounds_toArray, List.set_cons_zero, List.set_cons_succ]
     have HN5 := Lib.hid ((hx6.block b5 (Array.getElem?_eq_some_iff.1 HN5.out).1).trans HN5.out)
     have HN9 := Lib.hid ((hx6.block b9 (Array.getElem?_eq_some_iff.1 HN9.out).1).trans HN9.out)
     clear hx6
     refine wpAnyH_ready (rs := [2]) (by kernel_rfl) (by simp) ?_
     refine AllReadyH.cons rfl (fun K hK => ?_) (AllReadyH.nil)
     have hmm := run_mkI y6 m (by omega)
     simp only [List.getElem_toArray, List.getElem_cons_zero, List.getElem_cons_succ]
     go_simp
     clear hmm
     obtain ⟨b2, hw2⟩ : ∃ b, y6.heap.size = b := ⟨_, rfl⟩
     obtain ⟨y2, hy2⟩ : ∃ y, y6.alloc (.cells (iV (List.replicate m 0)).toArray 3) = y := ⟨_, rfl⟩
     rw [hy2, hw2]
     have hx2 : Below y6.heap.size y6 y2 := by rw [← hy2]; exact balloc (Below.refl _ _) _
     have HN2 : Hid (y2.heap[b2]? = some (.cells (iV (List.replicate m 0)).toArray 3 (0, 0))) := Lib.hid (by rw [← hy2, ← hw2]; exact heap_alloc_new _ _)
     have HG2 : Hid (w3.heap.size ≤ b2) := Lib.hid (by have := HBE.out.size; omega)
     have HNE2_5 : Hid (b2 ≠ b5) := Lib.hid (by have := (Array.getElem?_eq_some_iff.1 HN5.out).1; omega)
     have HNE2_9 : Hid (b2 ≠ b9) := Lib.hid (by have := (Array.getElem?_eq_some_iff.1 HN9.out).1; omega)
     have HNE2_6 : Hid (b2 ≠ b6) := Lib.hid (by have := (Array.getElem?_eq_some_iff.1 HN6.out).1; omega)
     clear hy2 hw2
     have HBE := Lib.hid (bthen HBE.out hx2)
     have hSp := HSS.out _ HBE.out
     clear hHeld
     refine hK.out _ _ hSp (fun hHeld => ?_)
     clear hSp hK K
     try simp only [Act.put, List.setIfInBounds_toArray, List.set_cons_zero, List.set_cons_succ]
     have HN5 := Lib.hid ((hx2.block b5 (Array.getElem?_eq_some_iff.1 HN5.out).1).trans HN5.out)
     have HN9 := Lib.hid ((hx2.block b9 (Array.getElem?_eq_some_iff.1 HN9.out).1).trans HN9.out)
     have HN6 := Lib.hid ((hx2.block b6 (Array.getElem?_eq_some_iff.1 HN6.out).1).trans HN6.out)
     clear hx2
     refine wpAnyH_take (i := 7) (v := .agg #[.slice (some ⟨b2, 0, none⟩) m m, .slice (some ⟨b5, 0, none⟩) k k, .map (some b6), .slice none 0 0]) rfl (by kernel_rfl) (by kernel_rfl) (by kernel_rfl) (fun _ _ _ h => h) (Or.inl ⟨by rfl, ?_⟩) (by assumption) ?_
     ·(intro w hSw; simp only [List.getElem_toArray, List.getElem_cons_zero, List.getElem_cons_succ]; (have hbu := nm_built b2 m b5 k b6; go_simp; first | done | with_reducible rfl))
     simp only [List.getElem_toArray, List.getElem_cons_zero, List.getElem_cons_succ, Act.put, List.setIfInBounds_toArray, List.set_cons_zero, List.set_cons_succ]
     refine wpAnyH_ready (rs := [8]) (by kernel_rfl) (by simp) ?_
     refine AllReadyH.cons rfl (fun K hK => ?_) (AllReadyH.nil)
     simp only [List.getElem_toArray, List.getElem_cons_zero, List.getElem_cons_succ]
     go_simp
     obtain ⟨b8, hw8⟩ : ∃ b, y2.heap.size = b := ⟨_, rfl⟩
     obtain ⟨y8, hy8⟩ : ∃ y, y2.alloc (.cells #[.slice (some ⟨b2, 0, none⟩) m m, .slice (some ⟨b5, 0, none⟩) k k, .map (some b6), .slice none 0 0] 327) = y := ⟨_, rfl⟩
     rw [hy8, hw8]
     have hx8 : Below y2.heap.size y2 y8 := by rw [← hy8]; exact balloc (Below.refl _ _) _
     have HN8 : Hid (y8.heap[b8]? = some (.cells #[.slice (some ⟨b2, 0, none⟩) m m, .slice (some ⟨b5, 0, none⟩) k k, .map (some b6), .slice none 0 0] 327 (0, 0))) := Lib.hid (by rw [← hy8, ← hw8]; exact heap_alloc_new _ _)
     have HG8 : Hid (w3.heap.size ≤ b8) := Lib.hid (by have := HBE.out.size; omega)
     have HNE5_8 : Hid (b5 ≠ b8) := Lib.hid (by have := (Array.getElem?_eq_some_iff.1 HN5.out).1; omega)
     have HNE8_9 : Hid (b8 ≠ b9) := Lib.hid (by have := (Array.getElem?_eq_some_iff.1 HN9.out).1; omega)
     have HNE6_8 : Hid (b6 ≠ b8) := Lib.hid (by have := (Array.getElem?_eq_some_iff.1 HN6.out).1; omega)
     have HNE2_8 : Hid (b2 ≠ b8) := Lib.hid (by have := (Array.getElem?_eq_some_iff.1 HN2.out).1; omega)
     clear hy8 hw8
     have HBE := Lib.hid (bthen HBE.out hx8)
     have hSp := HSS.out _ HBE.out
     clear hHeld
     refine hK.out _ _ hSp (fun hHeld => ?_)
     clear hSp hK K
     try simp only [Act.put, List.setIfInBounds_toArray, List.set_cons_zero, List.set_cons_succ]
     have HN5 := Lib.hid ((hx8.block b5 (Array.getElem?_eq_some_iff.1 HN5.out).1).trans HN5.out)
     have HN9 := Lib.hid ((hx8.block b9 (Array.getElem?_eq_some_iff.1 HN9.out).1).trans HN9.out)
     have HN6 := Lib.hid ((hx8.block b6 (Array.getElem?_eq_some_iff.1 HN6.out).1).trans HN6.out)
     have HN2 := Lib.hid ((hx8.block b2 (Array.getElem?_eq_some_iff.1 HN2.out).1).trans HN2.out)
     clear hx8
     refine wpAnyH_ready (rs := [10]) (by kernel_rfl) (by simp) ?_
     refine AllReadyH.cons rfl (fun K hK => ?_) (AllReadyH.nil)
     have hc10_0 := cellOf HN9.out 0 rfl
     have hf10_0 := frozenOf HN9.out 0
     simp only [List.getElem_toArray, List.getElem_cons_zero, List.getElem_cons_succ]
     go_simp
     obtain ⟨y10, hy10⟩ : ∃ y, (y8.setCell ⟨b9, 0, none⟩ (.pointer (some ⟨b8, 0, none⟩))) = y := ⟨_, rfl⟩
     rw [hy10]
     have hm10 : Mods [b9] y8 y10 := by rw [← hy10]; exact (Mods.refl [b9] y8).setCell (p := ⟨b9, 0, none⟩) (by simp) _
     have hv10 := setOf (HN9.out) 0 (.pointer (some ⟨b8, 0, none⟩))
     rw [hy10] at hv10
     clear hy10 hc10_0 hf10_0
     have HBE : Hid (Below w3.heap.size w3 y10) := Lib.hid (HBE.out.trans (hm10.below (fun k hk => by have := HG9.out; have e := List.mem_singleton.1 hk; omega) HBE.out.size))
     have hSp := HSS.out _ HBE.out
     clear hHeld
     refine hK.out _ _ hSp (fun hHeld => ?_)
     clear hSp hK K
     try simp only [Act.put, List.setIfInBounds_toArray, List.set_cons_zero, List.set_cons_succ]
     have HN5 := Lib.hid ((hm10.block b5 (Array.getElem?_eq_some_iff.1 HN5.out).1 (fun h => by have e := List.mem_singleton.1 h; have := HNE5_9.out; omega)).trans HN5.out)
     have HN6 := Lib.hid ((hm10.block b6 (Array.getElem?_eq_some_iff.1 HN6.out).1 (fun h => by have e := List.mem_singleton.1 h; have := HNE6_9.out; omega)).trans HN6.out)
     have HN2 := Lib.hid ((hm10.block b2 (Array.getElem?_eq_some_iff.1 HN2.out).1 (fun h => by have e := List.mem_singleton.1 h; have := HNE2_9.out; omega)).trans HN2.out)
     have HN8 := Lib.hid ((hm10.block b8 (Array.getElem?_eq_some_iff.1 HN8.out).1 (fun h => by have e := List.mem_singleton.1 h; have := HNE8_9.out; omega)).trans HN8.out)
     simp only [List.setIfInBounds_toArray, List.set_cons_zero, List.set_cons_succ] at hv10
     have HN9 := Lib.hid hv10
     clear hv10 hm10
     refine wpAnyH_done (by kernel_rfl) ?_ _
     have HEND := Lib.hid hHeld.2
     have HSE := Lib.hid hHeld.1
     clear hHeld
     clear HSE HSS
     go_wp2_with fail
     go_meet
     exact ⟨_, b9, b8, b2, b5, b6, rfl, rfl, HEND.out, HG2.out, HN9.out, ⟨HN8.out, HN2.out, HN5.out, HNE2_5.out⟩⟩
  ·skip
   have hmm := @run_makeMap Tryz.prog
   simp only [List.getElem_toArray, List.getElem_cons_zero, List.getElem_cons_succ]
   go_simp
   clear hmm
   obtain ⟨b6, hw6⟩ : ∃ b, wd.heap.size = b := ⟨_, rfl⟩
   obtain ⟨y6, hy6⟩ : ∃ y, wd.alloc (.map #[] 0) = y := ⟨_, rfl⟩
   rw [hy6, hw6]
   have hx6 : Below wd.heap.size wd y6 := by rw [← hy6]; exact balloc (Below.refl _ _) _
   have HN6 : Hid (y6.heap[b6]? = some (.map #[] 0)) := Lib.hid (by rw [← hy6, ← hw6]; exact heap_alloc_new _ _)
   have HG6 : Hid (w3.heap.size ≤ b6) := Lib.hid (by have := HBE.out.size; omega)
   clear hy6 hw6
   have HBE := Lib.hid (bthen HBE.out hx6)
   have hSp := HSS.out _ HBE.out
   clear hHeld
   refine hK.out _ _ hSp (fun hHeld => ?_)
   clear hSp hK K
   try simp only [Act.put, List.setIfInBounds_toArray, List.set_cons_zero, List.set_cons_succ]
   clear hx6
   refine wpAnyH_ready (rs := [2, 5, 9]) (by kernel_rfl) (by simp) ?_
   refine AllReadyH.cons rfl (fun K hK => ?_) (AllReadyH.cons rfl (fun K hK => ?_) (AllReadyH.cons rfl (fun K hK => ?_) (AllReadyH.nil)))
   ·skip
    have hmm := run_mkI y6 m (by omega)
    simp only [List.getElem_toArray, List.getElem_cons_zero, List.getElem_cons_succ]
    go_simp
    clear hmm
    obtain ⟨b2, hw2⟩ : ∃ b, y6.heap.size = b := ⟨_, rfl⟩
    obtain ⟨y2, hy2⟩ : ∃ y, y6.alloc (.cells (iV (List.replicate m 0)).toArray 3) = y := ⟨_, rfl⟩
    rw [hy2, hw2]
    have hx2 : Below y6.heap.size y6 y2 := by rw [← hy2]; exact balloc (Below.refl _ _) _
    have HN2 : Hid (y2.heap[b2]? = some (.cells (iV (List.replicate m 0)).toArray 3 (0, 0))) := Lib.hid (by rw [← hy2, ← hw2]; exact heap_alloc_new _ _)
    have HG2 : Hid (w3.heap.size ≤ b2) := Lib.hid (by have := HBE.out.size; omega)
    have HNE2_6 : Hid (b2 ≠ b6) := Lib.hid (by have := (Array.getElem?_eq_some_iff.1 HN6.out).1; omega)
    clear hy2 hw2
    have HBE := Lib.hid (bthen HBE.out hx2)
    have hSp := HSS.out _ HBE.out
    clear hHeld
    refine hK.out _ _ hSp (fun hHeld => ?_)
    clear hSp hK K
    try simp only [Act.put, List.setIfInBounds_toArray, List.set_cons_zero, List.set_cons_succ]
    have HN6 := Lib.hid ((hx2.block b6 (Array.getElem?_eq_some_iff.1 HN6.out).1).trans HN6.out)
    clear hx2
    refine wpAnyH_ready (rs := [5, 9]) (by kernel_rfl) (by simp) ?_
    refine AllReadyH.cons rfl (fun K hK => ?_) (AllReadyH.cons rfl (fun K hK => ?_) (AllReadyH.nil))
    ·skip
     have hmm := run_mkI y2 k (by omega)
     simp only [List.getElem_toArray, List.getElem_cons_zero, List.getElem_cons_succ]
     go_simp
     clear hmm
     obtain ⟨b5, hw5⟩ : ∃ b, y2.heap.size = b := ⟨_, rfl⟩
     obtain ⟨y5, hy5⟩ : ∃ y, y2.alloc (.cells (iV (List.replicate k 0)).toArray 3) = y := ⟨_, rfl⟩
     rw [hy5, hw5]
     have hx5 : Below y2.heap.size y2 y5 := by rw [← hy5]; exact balloc (Below.refl _ _) _
     have HN5 : Hid (y5.heap[b5]? = some (.cells (iV (List.replicate k 0)).toArray 3 (0, 0))) := Lib.hid (by rw [← hy5, ← hw5]; exact heap_alloc_new _ _)
     have HG5 : Hid (w3.heap.size ≤ b5) := Lib.hid (by have := HBE.out.size; omega)
     have HNE5_6 : Hid (b5 ≠ b6) := Lib.hid (by have := (Array.getElem?_eq_some_iff.1 HN6.out).1; omega)
     have HNE2_5 : Hid (b2 ≠ b5) := Lib.hid (by have := (Array.getElem?_eq_some_iff.1 HN2.out).1; omega)
     clear hy5 hw5
     have HBE := Lib.hid (bthen HBE.out hx5)
     have hSp := HSS.out _ HBE.out
     clear hHeld
     refine hK.out _ _ hSp (fun hHeld => ?_)
     clear hSp hK K
     try simp only [Act.put, List.setIfInBounds_toArray, List.set_cons_zero, List.set_cons_succ]
     have HN6 := Lib.hid ((hx5.block b6 (Array.getElem?_eq_some_iff.1 HN6.out).1).trans HN6.out)
     have HN2 := Lib.hid ((hx5.block b2 (Array.getElem?_eq_some_iff.1 HN2.out).1).trans HN2.out)
     clear hx5
     refine wpAnyH_take (i := 7) (v := .agg #[.slice (some ⟨b2, 0, none⟩) m m, .slice (some ⟨b5, 0, none⟩) k k, .map (some b6), .slice none 0 0]) rfl (by kernel_rfl) (by kernel_rfl) (by kernel_rfl) (fun _ _ _ h => h) (Or.inl ⟨by rfl, ?_⟩) (by assumption) ?_
     ·(intro w hSw; simp only [List.getElem_toArray, List.getElem_cons_zero, List.getElem_cons_succ]; (have hbu := nm_built b2 m b5 k b6; go_simp; first | done | with_reducible rfl))
     simp only [List.getElem_toArray, List.getElem_cons_zero, List.getElem_cons_succ, Act.put, List.setIfInBounds_toArray, List.set_cons_zero, List.set_cons_succ]
     refine wpAnyH_ready (rs := [8, 9]) (by kernel_rfl) (by simp) ?_
     refine AllReadyH.cons rfl (fun K hK => ?_) (AllReadyH.cons rfl (fun K hK => ?_) (AllReadyH.nil))
     ·skip
      simp only [List.getElem_toArray, List.getElem_cons_zero, List.getElem_cons_succ]
      go_simp
      obtain ⟨b8, hw8⟩ : ∃ b, y5.heap.size = b := ⟨_, rfl⟩
      obtain ⟨y8, hy8⟩ : ∃ y, y5.alloc (.cells #[.slice (some ⟨b2, 0, none⟩) m m, .slice (some ⟨b5, 0, none⟩) k k, .map (some b6), .slice none 0 0] 327) = y := ⟨_, rfl⟩
      rw [hy8, hw8]
      have hx8 : Below y5.heap.size y5 y8 := by rw [← hy8]; exact balloc (Below.refl _ _) _
      have HN8 : Hid (y8.heap[b8]? = some (.cells #[.slice (some ⟨b2, 0, none⟩) m m, .slice (some ⟨b5, 0, none⟩) k k, .map (some b6), .slice none 0 0] 327 (0, 0))) := Lib.hid (by rw [← hy8, ← hw8]; exact heap_alloc_new _ _)
      have HG8 : Hid (w3.heap.size ≤ b8) := Lib.hid (by have := HBE.out.size; omega)
      have HNE6_8 : Hid (b6 ≠ b8) := Lib.hid (by have := (Array.getElem?_eq_some_iff.1 HN6.out).1; omega)
      have HNE2_8 : Hid (b2 ≠ b8) := Lib.hid (by have := (Array.getElem?_eq_some_iff.1 HN2.out).1; omega)
      have HNE5_8 : Hid (b5 ≠ b8) := Lib.hid (by have := (Array.getElem?_eq_some_iff.1 HN5.out).1; omega)
      clear hy8 hw8
      have HBE := Lib.hid (bthen HBE.out hx8)
      have hSp := HSS.out _ HBE.out
      clear hHeld
      refine hK.out _ _ hSp (fun hHeld => ?_)
      clear hSp hK K
      try simp only [Act.put, List.setIfInBounds_toArray, List.set_cons_zero, List.set_cons_succ]
      have HN6 := Lib.hid ((hx8.block b6 (Array.getElem?_eq_some_iff.1 HN6.out).1).trans HN6.out)
      have HN2 := Lib.hid ((hx8.block b2 (Array.getElem?_eq_some_iff.1 HN2.out).1).trans HN2.out)
      have HN5 := Lib.hid ((hx8.block b5 (Array.getElem?_eq_some_iff.1 HN5.out).1).trans HN5.out)
      clear hx8
      refine wpAnyH_ready (rs := [9]) (by kernel_rfl) (by simp) ?_
      refine AllReadyH.cons rfl (fun K hK => ?_) (AllReadyH.nil)
      simp only [List.getElem_toArray, List.getElem_cons_zero, List.getElem_cons_succ]
      go_simp
      obtain ⟨b9, hw9⟩ : ∃ b, y8.heap.size = b := ⟨_, rfl⟩
      obtain ⟨y9, hy9⟩ : ∃ y, y8.alloc (.cells #[.pointer none] 323) = y := ⟨_, rfl⟩
      rw [hy9, hw9]
      have hx9 : Below y8.heap.size y8 y9 := by rw [← hy9]; exact balloc (Below.refl _ _) _
      have HN9 : Hid (y9.heap[b9]? = some (.cells #[.pointer none] 323 (0, 0))) := Lib.hid (by rw [← hy9, ← hw9]; exact heap_alloc_new _ _)
      have HG9 : Hid (w3.heap.size ≤ b9) := Lib.hid (by have := HBE.out.size; omega)
      have HNE6_9 : Hid (b6 ≠ b9) := Lib.hid (by have := (Array.getElem?_eq_some_iff.1 HN6.out).1; omega)
      have HNE2_9 : Hid (b2 ≠ b9) := Lib.hid (by have := (Array.getElem?_eq_some_iff.1 HN2.out).1; omega)
      have HNE5_9 : Hid (b5 ≠ b9) := Lib.hid (by have := (Array.getElem?_eq_some_iff.1 HN5.out).1; omega)
      have HNE8_9 : Hid (b8 ≠ b9) := Lib.hid (by have := (Array.getElem?_eq_some_iff.1 HN8.out).1; omega)
      clear hy9 hw9
      have HBE := Lib.hid (bthen HBE.out hx9)
      have hSp := HSS.out _ HBE.out
      clear hHeld
      refine hK.out _ _ hSp (fun hHeld => ?_)
      clear hSp hK K
      try simp only [Act.put, List.setIfInBounds_toArray, List.set_cons_zero, List.set_cons_succ]
      have HN6 := Lib.hid ((hx9.block b6 (Array.getElem?_eq_some_iff.1 HN6.out).1).trans HN6.out)
      have HN2 := Lib.hid ((hx9.block b2 (Array.getElem?_eq_some_iff.1 HN2.out).1).trans HN2.out)
      have HN5 := Lib.hid ((hx9.block b5 (Array.getElem?_eq_some_iff.1 HN5.out).1).trans HN5.out)
      have HN8 := Lib.hid ((hx9.block b8 (Array.getElem?_eq_some_iff.1 HN8.out).1).trans HN8.out)
      clear hx9
      refine wpAnyH_ready (rs := [10]) (by kernel_rfl) (by simp) ?_
      refine AllReadyH.cons rfl (fun K hK => ?_) (AllReadyH.nil)
      have hc10_0 := cellOf HN9.out 0 rfl
      have hf10_0 := frozenOf HN9.out 0
      simp only [List.getElem_toArray, List.getElem_cons_zero, List.getElem_cons_succ]
      go_simp
      obtain ⟨y10, hy10⟩ : ∃ y, (y9.setCell ⟨b9, 0, none⟩ (.pointer (some ⟨b8, 0, none⟩))) = y := ⟨_, rfl⟩
      rw [hy10]
      have hm10 : Mods [b9] y9 y10 := by rw [← hy10]; exact (Mods.refl [b9] y9).setCell (p := ⟨b9, 0, none⟩) (by simp) _
      have hv10 := setOf (HN9.out) 0 (.pointer (some ⟨b8, 0, none⟩))
      rw [hy10] at hv10
      clear hy10 hc10_0 hf10_0
      have HBE : Hid (Below w3.heap.size w3 y10) := Lib.hid (HBE.out.trans (hm10.below (fun k hk => by have := HG9.out; have e := List.mem_singleton.1 hk; omega) HBE.out.size))
      have hSp := HSS.out _ HBE.out
      clear hHeld
      refine hK.out _ _ hSp (fun hHeld => ?_)
      clear hSp hK K
      try simp only [Act.put, List.setIfInBounds_toArray, List.set_cons_zero, List.set_cons_succ]
      have HN6 := Lib.hid ((hm10.block b6 (Array.getElem?_eq_some_iff.1 HN6.out).1 (fun h => by have e := List.mem_singleton.1 h; have := HNE6_9.out; omega)).trans HN6.out)
      have HN2 := Lib.hid ((hm10.block b2 (Array.getElem?_eq_some_iff.1 HN2.out).1 (fun h => by have e := List.mem_singleton.1 h; have := HNE2_9.out; omega)).trans HN2.out)
      have HN5 := Lib.hid ((hm10.block b5 (Array.getElem?_eq_some_iff.1 HN5.out).1 (fun h => by have e := List.mem_singleton.1 h; have := HNE5_9.out; omega)).trans HN5.out)
      have HN8 := Lib.hid ((hm10.block b8 (Array.getElem?_eq_some_iff.1 HN8.out).1 (fun h => by have e := List.mem_singleton.1 h; have := HNE8_9.out; omega)).trans HN8.out)
      simp only [List.setIfInBounds_toArray, List.set_cons_zero, List.set_cons_succ] at hv10
      have HN9 := Lib.hid hv10
      clear hv10 hm10
      refine wpAnyH_done (by kernel_rfl) ?_ _
      have HEND := Lib.hid hHeld.2
      have HSE := Lib.hid hHeld.1
      clear hHeld
      clear HSE HSS
      go_wp2_with fail
      go_meet
      exact ⟨_, b9, b8, b2, b5, b6, rfl, rfl, HEND.out, HG2.out, HN9.out, ⟨HN8.out, HN2.out, HN5.out, HNE2_5.out⟩⟩
     ·skip
      simp only [List.getElem_toArray, List.getElem_cons_zero, List.getElem_cons_succ]
      go_simp
      obtain ⟨b9, hw9⟩ : ∃ b, y5.heap.size = b := ⟨_, rfl⟩
      obtain ⟨y9, hy9⟩ : ∃ y, y5.alloc (.cells #[.pointer none] 323) = y := ⟨_, rfl⟩
      rw [hy9, hw9]
      have hx9 : Below y5.heap.size y5 y9 := by rw [← hy9]; exact balloc (Below.refl _ _) _
      have HN9 : Hid (y9.heap[b9]? = some (.cells #[.pointer none] 323 (0, 0))) := Lib.hid (by rw [← hy9, ← hw9]; exact heap_alloc_new _ _)
      have HG9 : Hid (w3.heap.size ≤ b9) := Lib.hid (by have := HBE.out.size; omega)
      have HNE6_9 : Hid (b6 ≠ b9) := Lib.hid (by have := (Array.getElem?_eq_some_iff.1 HN6.out).1; omega)
      have HNE2_9 : Hid (b2 ≠ b9) := Lib.hid (by have := (Array.getElem?_eq_some_iff.1 HN2.out).1; omega)
      have HNE5_9 : Hid (b5 ≠ b9) := Lib.hid (by have := (Array.getElem?_eq_some_iff.1 HN5.out).1; omega)
      clear hy9 hw9
      have HBE := Lib.hid (bthen HBE.out hx9)
      have hSp := HSS.out _ HBE.out
      clear hHeld
      refine hK.out _ _ hSp (fun hHeld => ?_)
      clear hSp hK K
      try simp only [Act.put, List.setIfInBounds_toArray, List.set_cons_zero, List.set_cons_succ]
      have HN6 := Lib.hid ((hx9.block b6 (Array.getElem?_eq_some_iff.1 HN6.out).1).trans HN6.out)
      have HN2 := Lib.hid ((hx9.block b2 (Array.getElem?_eq_some_iff.1 HN2.out).1).trans HN2.out)
      have HN5 := Lib.hid ((hx9.block b5 (Array.getElem?_eq_some_iff.1 HN5.out).1).trans HN5.out)
      clear hx9
      refine wpAnyH_ready (rs := [8]) (by kernel_rfl) (by simp) ?_
      refine AllReadyH.cons rfl (fun K hK => ?_) (AllReadyH.nil)
      simp only [List.getElem_toArray, List.getElem_cons_zero, List.getElem_cons_succ]
      go_simp
      obtain ⟨b8, hw8⟩ : ∃ b, y9.heap.size = b := ⟨_, rfl⟩
      obtain ⟨y8, hy8⟩ : ∃ y, y9.alloc (.cells #[.slice (some ⟨b2, 0, none⟩) m m, .slice (some ⟨b5, 0, none⟩) k k, .map (some b6), .slice none 0 0] 327) = y := ⟨_, rfl⟩
      rw [hy8, hw8]
      have hx8 : Below y9.heap.size y9 y8 := by rw [← hy8]; exact balloc (Below.refl _ _) _
      have HN8 : Hid (y8.heap[b8]? = some (.cells #[.slice (some ⟨b2, 0, none⟩) m m, .slice (some ⟨b5, 0, none⟩) k k, .map (some b6), .slice none 0 0] 327 (0, 0))) := Lib.hid (by rw [← hy8, ← hw8]; exact heap_alloc_new _ _)
      have HG8 : Hid (w3.heap.size ≤ b8) := Lib.hid (by have := HBE.out.size; omega)
      have HNE6_8 : Hid (b6 ≠ b8) := Lib.hid (by have := (Array.getElem?_eq_some_iff.1 HN6.out).1; omega)
      have HNE2_8 : Hid (b2 ≠ b8) := Lib.hid (by have := (Array.getElem?_eq_some_iff.1 HN2.out).1; omega)
      have HNE5_8 : Hid (b5 ≠ b8) := Lib.hid (by have := (Array.getElem?_eq_some_iff.1 HN5.out).1; omega)
      have HNE8_9 : Hid (b8 ≠ b9) := Lib.hid (by have := (Array.getElem?_eq_some_iff.1 HN9.out).1; omega)
      clear hy8 hw8
      have HBE := Lib.hid (bthen HBE.out hx8)
      have hSp := HSS.out _ HBE.out
      clear hHeld
      refine hK.out _ _ hSp (fun hHeld => ?_)
      clear hSp hK K
      try simp only [Act.put, List.setIfInBounds_toArray, List.set_cons_zero, List.set_cons_succ]
      have HN6 := Lib.hid ((hx8.block b6 (Array.getElem?_eq_some_iff.1 HN6.out).1).trans HN6.out)
      have HN2 := Lib.hid ((hx8.block b2 (Array.getElem?_eq_some_iff.1 HN2.out).1).trans HN2.out)
      have HN5 := Lib.hid ((hx8.block b5 (Array.getElem?_eq_some_iff.1 HN5.out).1).trans HN5.out)
      have HN9 := Lib.hid ((hx8.block b9 (Array.getElem?_eq_some_iff.1 HN9.out).1).trans HN9.out)
      clear hx8
      refine wpAnyH_ready (rs := [10]) (by kernel_rfl) (by simp) ?_
      refine AllReadyH.cons rfl (fun K hK => ?_) (AllReadyH.nil)
      have hc10_0 := cellOf HN9.out 0 rfl
      have hf10_0 := frozenOf HN9.out 0
      simp only [List.getElem_toArray, List.getElem_cons_zero, List.getElem_cons_succ]
      go_simp
      obtain ⟨y10, hy10⟩ : ∃ y, (y8.setCell ⟨b9, 0, none⟩ (.pointer (some ⟨b8, 0, none⟩))) = y := ⟨_, rfl⟩
      rw [hy10]
      have hm10 : Mods [b9] y8 y10 := by rw [← hy10]; exact (Mods.refl [b9] y8).setCell (p := ⟨b9, 0, none⟩) (by simp) _
      have hv10 := setOf (HN9.out) 0 (.pointer (some ⟨b8, 0, none⟩))
      rw [hy10] at hv10
      clear hy10 hc10_0 hf10_0
      have HBE : Hid (Below w3.heap.size w3 y10) := Lib.hid (HBE.out.trans (hm10.below (fun k hk => by have := HG9.out; have e := List.mem_singleton.1 hk; omega) HBE.out.size))
      have hSp := HSS.out _ HBE.out
      clear hHeld
      refine hK.out _ _ hSp (fun hHeld => ?_)
      clear hSp hK K
      try simp only [Act.put, List.setIfInBounds_toArray, List.set_cons_zero, List.set_cons_succ]
      have HN6 := Lib.hid ((hm10.block b6 (Array.getElem?_eq_some_iff.1 HN6.out).1 (fun h => by have e := List.mem_singleton.1 h; have := HNE6_9.out; omega)).trans HN6.out)
      have HN2 := Lib.hid ((hm10.block b2 (Array.getElem?_eq_some_iff.1 HN2.out).1 (fun h => by have e := List.mem_singleton.1 h; have := HNE2_9.out; omega)).trans HN2.out)
      have HN5 := Lib.hid ((hm10.block b5 (Array.getElem?_eq_some_iff.1 HN5.out).1 (fun h => by have e := List.mem_singleton.1 h; have := HNE5_9.out; omega)).trans HN5.out)
      have HN8 := Lib.hid ((hm10.block b8 (Array.getElem?_eq_some_iff.1 HN8.out).1 (fun h => by have e := List.mem_singleton.1 h; have := HNE8_9.out; omega)).trans HN8.out)
      simp only [List.setIfInBounds_toArray, List.set_cons_zero, List.set_cons_succ] at hv10
      have HN9 := Lib.hid hv10
      clear hv10 hm10
      refine wpAnyH_done (by kernel_rfl) ?_ _
      have HEND := Lib.hid hHeld.2
      have HSE := Lib.hid hHeld.1
      clear hHeld
      clear HSE HSS
      go_wp2_with fail
      go_meet
      exact ⟨_, b9, b8, b2, b5, b6, rfl, rfl, HEND.out, HG2.out, HN9.out, ⟨HN8.out, HN2.out, HN5.out, HNE2_5.out⟩⟩
    ·skip
     simp only [List.getElem_toArray, List.getElem_cons_zero, List.getElem_cons_succ]
     go_simp
     obtain ⟨b9, hw9⟩ : ∃ b, y2.heap.size = b := ⟨_, rfl⟩
     obtain ⟨y9, hy9⟩ : ∃ y, y2.alloc (.cells #[.pointer none] 323) = y := ⟨_, rfl⟩
     rw [hy9, hw9]
     have hx9 : Below y2.heap.size y2 y9 := by rw [← hy9]; exact balloc (Below.refl _ _) _
     have HN9 : Hid (y9.heap[b9]? = some (.cells #[.pointer none] 323 (0, 0))) := Lib.hid (by rw [← hy9, ← hw9]; exact heap_alloc_new _ _)
     have HG9 : Hid (w3.heap.size ≤ b9) := Lib.hid (by have := HBE.out.size; omega)
     have HNE6_9 : Hid (b6 ≠ b9) := Lib.hid (by have := (Array.getElem?_eq_some_iff.1 HN6.out).1; omega)
     have HNE2_9 : Hid (b2 ≠ b9) := Lib.hid (by have := (Array.getElem?_eq_some_iff.1 HN2.out).1; omega)
     clear hy9 hw9
     have HBE := Lib.hid (bthen HBE.out hx9)
     have hSp := HSS.out _ HBE.out
     clear hHeld
     refine hK.out _ _ hSp (fun hHeld => ?_)
     clear hSp hK K
     try simp only [Act.put, List.setIfInBounds_toArray, List.set_cons_zero, List.set_cons_succ]
     have HN6 := Lib.hid ((hx9.block b6 (Array.getElem?_eq_some_iff.1 HN6.out).1).trans HN6.out)
     have HN2 := Lib.hid ((hx9.block b2 (Array.getElem?_eq_some_iff.1 HN2.out).1).trans HN2.out)
     clear hx9
     refine wpAnyH_ready (rs := [5]) (by kernel_rfl) (by simp) ?_
     refine AllReadyH.cons rfl (fun K hK => ?_) (AllReadyH.nil)
     have hmm := run_mkI y9 k (by omega)
     simp only [List.getElem_toArray, List.getElem_cons_zero, List.getElem_cons_succ]
     go_simp
     clear hmm
     obtain ⟨b5, hw5⟩ : ∃ b, y9.heap.size = b := ⟨_, rfl⟩
     obtain ⟨y5, hy5⟩ : ∃ y, y9.alloc (.cells (iV (List.replicate k 0)).toArray 3) = y := ⟨_, rfl⟩
     rw [hy5, hw5]
     have hx5 : Below y9.heap.size y9 y5 := by rw [← hy5]; exact balloc (Below.refl _ _) _
     have HN5 : Hid (y5.heap[b5]? = some (.cells (iV (List.replicate k 0)).toArray 3 (0, 0))) := Lib.hid (by rw [← hy5, ← hw5]; exact heap_alloc_new _ _)
     have HG5 : Hid (w3.heap.size ≤ b5) := Lib.hid (by have := HBE.out.size; omega)
     have HNE5_6 : Hid (b5 ≠ b6) := Lib.hid (by have := (Array.getElem?_eq_some_iff.1 HN6.out).1; omega)
     have HNE2_5 : Hid (b2 ≠ b5) := Lib.hid (by have := (Array.getElem?_eq_some_iff.1 HN2.out).1; omega)
     have HNE5_9 : Hid (b5 ≠ b9) := Lib.hid (by have := (Array.getElem?_eq_some_iff.1 HN9.out).1; omega)
     clear hy5 hw5
     have HBE := Lib.hid (bthen HBE.out hx5)
     have hSp := HSS.out _ HBE.out
     clear hHeld
     refine hK.out _ _ hSp (fun hHeld => ?_)
     clear hSp hK K
     try simp only [Act.put, List.setIfInBounds_toArray, List.set_cons_zero, List.set_cons_succ]
     have HN6 := Lib.hid ((hx5.block b6 (Array.getElem?_eq_some_iff.1 HN6.out).1).trans HN6.out)
     have HN2 := Lib.hid ((hx5.block b2 (Array.getElem?_eq_some_iff.1 HN2.out).1).trans HN2.out)
     have HN9 := Lib.hid ((hx5.block b9 (Array.getElem?_eq_some_iff.1 HN9.out).1).trans HN9.out)
     clear hx5
     refine wpAnyH_take (i := 7) (v := .agg #[.slice (some ⟨b2, 0, none⟩) m m, .slice (some ⟨b5, 0, none⟩) k k, .map (some b6), .slice none 0 0]) rfl (by kernel_rfl) (by kernel_rfl) (by kernel_rfl) (fun _ _ _ h => h) (Or.inl ⟨by rfl, ?_⟩) (by assumption) ?_
     ·(intro w hSw; simp only [List.getElem_toArray, List.getElem_cons_zero, List.getElem_cons_succ]; (have hbu := nm_built b2 m b5 k b6; go_simp; first | done | with_reducible rfl))
     simp only [List.getElem_toArray, List.getElem_cons_zero, List.getElem_cons_succ, Act.put, List.setIfInBounds_toArray, List.set_cons_zero, List.set_cons_succ]
     refine wpAnyH_ready (rs := [8]) (by kernel_rfl) (by simp) ?_
     refine AllReadyH.cons rfl (fun K hK => ?_) (AllReadyH.nil)
     simp only [List.getElem_toArray, List.getElem_cons_zero, List.getElem_cons_succ]
     go_simp
     obtain ⟨b8, hw8⟩ : ∃ b, y5.heap.size = b := ⟨_, rfl⟩
     obtain ⟨y8, hy8⟩ : ∃ y, y5.alloc (.cells #[.slice (some ⟨b2, 0, none⟩) m m, .slice (some ⟨b5, 0, none⟩) k k, .map (some b6), .slice none 0 0] 327) = y := ⟨_, rfl⟩
     rw [hy8, hw8]
     have hx8 : Below y5.heap.size y5 y8 := by rw [← hy8]; exact balloc (Below.refl _ _) _
     have HN8 : Hid (y8.heap[b8]? = some (.cells #[.slice (some ⟨b2, 0, none⟩) m m, .slice (some ⟨b5, 0, none⟩) k k, .map (some b6), .slice none 0 0] 327 (0, 0))) := Lib.hid (by rw [← hy8, ← hw8]; exact heap_alloc_new _ _)
     have HG8 : Hid (w3.heap.size ≤ b8) := Lib.hid (by have := HBE.out.size; omega)
     have HNE6_8 : Hid (b6 ≠ b8) := Lib.hid (by have := (Array.getElem?_eq_some_iff.1 HN6.out).1; omega)
     have HNE2_8 : Hid (b2 ≠ b8) := Lib.hid (by have := (Array.getElem?_eq_some_iff.1 HN2.out).1; omega)
     have HNE8_9 : Hid (b8 ≠ b9) := Lib.hid (by have := (Array.getElem?_eq_some_iff.1 HN9.out).1; omega)
     have HNE5_8 : Hid (b5 ≠ b8) := Lib.hid (by have := (Array.getElem?_eq_some_iff.1 HN5.out).1; omega)
     clear hy8 hw8
     have HBE := Lib.hid (bthen HBE.out hx8)
     have hSp := HSS.out _ HBE.out
     clear hHeld
     refine hK.out _ _ hSp (fun hHeld => ?_)
     clear hSp hK K
     try simp only [Act.put, List.setIfInBounds_toArray, List.set_cons_zero, List.set_cons_succ]
     have HN6 := Lib.hid ((hx8.block b6 (Array.getElem?_eq_some_iff.1 HN6.out).1).trans HN6.out)
     have HN2 := Lib.hid ((hx8.block b2 (Array.getElem?_eq_some_iff.1 HN2.out).1).trans HN2.out)
     have HN9 := Lib.hid ((hx8.block b9 (Array.getElem?_eq_some_iff.1 HN9.out).1).trans HN9.out)
     have HN5 := Lib.hid ((hx8.block b5 (Array.getElem?_eq_some_iff.1 HN5.out).1).trans HN5.out)
     clear hx8
     refine wpAnyH_ready (rs := [10]) (by kernel_rfl) (by simp) ?_
     refine AllReadyH.cons rfl (fun K hK => ?_) (AllReadyH.nil)
     have hc10_0 := cellOf HN9.out 0 rfl
     have hf10_0 := frozenOf HN9.out 0
     simp only [List.getElem_toArray, List.getElem_cons_zero, List.getElem_cons_succ]
     go_simp
     obtain ⟨y10, hy10⟩ : ∃ y, (y8.setCell ⟨b9, 0, none⟩ (.pointer (some ⟨b8, 0, none⟩))) = y := ⟨_, rfl⟩
     rw [hy10]
     have hm10 : Mods [b9] y8 y10 := by rw [← hy10]; exact (Mods.refl [b9] y8).setCell (p := ⟨b9, 0, none⟩) (by simp) _
     have hv10 := setOf (HN9.out) 0 (.pointer (some ⟨b8, 0, none⟩))
     rw [hy10] at hv10
     clear hy10 hc10_0 hf10_0
     have HBE : Hid (Below w3.heap.size w3 y10) := Lib.hid (HBE.out.trans (hm10.below (fun k hk => by have := HG9.out; have e := List.mem_singleton.1 hk; omega) HBE.out.size))
     have hSp := HSS.out _ HBE.out
     clear hHeld
     refine hK.out _ _ hSp (fun hHeld => ?_)
     clear hSp hK K
     try simp only [Act.put, List.setIfInBounds_toArray, List.set_cons_zero, List.set_cons_succ]
     have HN6 := Lib.hid ((hm10.block b6 (Array.getElem?_eq_some_iff.1 HN6.out).1 (fun h => by have e := List.mem_singleton.1 h; have := HNE6_9.out; omega)).trans HN6.out)
     have HN2 := Lib.hid ((hm10.block b2 (Array.getElem?_eq_some_iff.1 HN2.out).1 (fun h => by have e := List.mem_singleton.1 h; have := HNE2_9.out; omega)).trans HN2.out)
     have HN5 := Lib.hid ((hm10.block b5 (Array.getElem?_eq_some_iff.1 HN5.out).1 (fun h => by have e := List.mem_singleton.1 h; have := HNE5_9.out; omega)).trans HN5.out)
     have HN8 := Lib.hid ((hm10.block b8 (Array.getElem?_eq_some_iff.1 HN8.out).1 (fun h => by have e := List.mem_singleton.1 h; have := HNE8_9.out; omega)).trans HN8.out)
     simp only [List.setIfInBounds_toArray, List.set_cons_zero, List.set_cons_succ] at hv10
     have HN9 := Lib.hid hv10
     clear hv10 hm10
     refine wpAnyH_done (by kernel_rfl) ?_ _
     have HEND := Lib.hid hHeld.2
     have HSE := Lib.hid hHeld.1
     clear hHeld
     clear HSE HSS
     go_wp2_with fail
     go_meet
     exact ⟨_, b9, b8, b2, b5, b6, rfl, rfl, HEND.out, HG2.out, HN9.out, ⟨HN8.out, HN2.out, HN5.out, HNE2_5.out⟩⟩
   ·skip
    have hmm := run_mkI y6 k (by omega)
    simp only [List.getElem_toArray, List.getElem_cons_zero, List.getElem_cons_succ]
    go_simp
    clear hmm
    obtain ⟨b5, hw5⟩ : ∃ b, y6.heap.size = b := ⟨_, rfl⟩
    obtain ⟨y5, hy5⟩ : ∃ y, y6.alloc (.cells (iV (List.replicate k 0)).toArray 3) = y := ⟨_, rfl⟩
    rw [hy5, hw5]
    have hx5 : Below y6.heap.size y6 y5 := by rw [← hy5]; exact balloc (Below.refl _ _) _
    have HN5 : Hid (y5.heap[b5]? = some (.cells (iV (List.replicate k 0)).toArray 3 (0, 0))) := Lib.hid (by rw [← hy5, ← hw5]; exact heap_alloc_new _ _)
    have HG5 : Hid (w3.heap.size ≤ b5) := Lib.hid (by have := HBE.out.size; omega)
    have HNE5_6 : Hid (b5 ≠ b6) := Lib.hid (by have := (Array.getElem?_eq_some_iff.1 HN6.out).1; omega)
    clear hy5 hw5
    have HBE := Lib.hid (bthen HBE.out hx5)
    have hSp := HSS.out _ HBE.out
    clear hHeld
    refine hK.out _ _ hSp (fun hHeld => ?_)
    clear hSp hK K
    try simp only [Act.put, List.setIfInBounds_toArray, List.set_cons_zero, List.set_cons_succ]
    have HN6 := Lib.hid ((hx5.block b6 (Array.getElem?_eq_some_iff.1 HN6.out).1).trans HN6.out)
    clear hx5
    refine wpAnyH_ready (rs := [2, 9]) (by kernel_rfl) (by simp) ?_
    refine AllReadyH.cons rfl (fun K hK => ?_) (AllReadyH.cons rfl (fun K hK => ?_) (AllReadyH.nil))
    ·skip
     have hmm := run_mkI y5 m (by omega)
     simp only [List.getElem_toArray, List.getElem_cons_zero, List.getElem_cons_succ]
     go_simp
     clear hmm
     obtain ⟨b2, hw2⟩ : ∃ b, y5.heap.size = b := ⟨_, rfl⟩
     obtain ⟨y2, hy2⟩ : ∃ y, y5.alloc (.cells (iV (List.replicate m 0)).toArray 3) = y := ⟨_, rfl⟩
     rw [hy2, hw2]
     have hx2 : Below y5.heap.size y5 y2 := by rw [← hy2]; exact balloc (Below.refl _ _) _
     have HN2 : Hid (y2.heap[b2]? = some (.cells (iV (List.replicate m 0)).toArray 3 (0, 0))) := Lib.hid (by rw [← hy2, ← hw2]; exact heap_alloc_new _ _)
     have HG2 : Hid (w3.heap.size ≤ b2) := Lib.hid (by have := HBE.out.size; omega)
     have HNE2_6 : Hid (b2 ≠ b6) := Lib.hid (by have := (Array.getElem?_eq_some_iff.1 HN6.out).1; omega)
     have HNE2_5 : Hid (b2 ≠ b5) := Lib.hid (by have := (Array.getElem?_eq_some_iff.1 HN5.out).1; omega)
     clear hy2 hw2
     have HBE := Lib.hid (bthen HBE.out hx2)
     have hSp := HSS.out _ HBE.out
     clear hHeld
     refine hK.out _ _ hSp (fun hHeld => ?_)
     clear hSp hK K
     try simp only [Act.put, List.setIfInBounds_toArray, List.set_cons_zero, List.set_cons_succ]
     have HN6 := Lib.hid ((hx2.block b6 (Array.getElem?_eq_some_iff.1 HN6.out).1).trans HN6.out)
     have HN5 := Lib.hid ((hx2.block b5 (Array.getElem?_eq_some_iff.1 HN5.out).1).trans HN5.out)
     clear hx2
     refine wpAnyH_take (i := 7) (v := .agg #[.slice (some ⟨b2, 0, none⟩) m m, .slice (some ⟨b5, 0, none⟩) k k, .map (some b6), .slice none 0 0]) rfl (by kernel_rfl) (by kernel_rfl) (by kernel_rfl) (fun _ _ _ h => h) (Or.inl ⟨by rfl, ?_⟩) (by assumption) ?_
     ·(intro w hSw; simp only [List.getElem_toArray, List.getElem_cons_zero, List.getElem_cons_succ]; (have hbu := nm_built b2 m b5 k b6; go_simp; first | done | with_reducible rfl))
     simp only [List.getElem_toArray, List.getElem_cons_zero, List.getElem_cons_succ, Act.put, List.setIfInBounds_toArray, List.set_cons_zero, List.set_cons_succ]
     refine wpAnyH_ready (rs := [8, 9]) (by kernel_rfl) (by simp) ?_
     refine AllReadyH.cons rfl (fun K hK => ?_) (AllReadyH.cons rfl (fun K hK => ?_) (AllReadyH.nil))
     ·skip
      simp only [List.getElem_toArray, List.getElem_cons_zero, List.getElem_cons_succ]
      go_simp
      obtain ⟨b8, hw8⟩ : ∃ b, y2.heap.size = b := ⟨_, rfl⟩
      obtain ⟨y8, hy8⟩ : ∃ y, y2.alloc (.cells #[.slice (some ⟨b2, 0, none⟩) m m, .slice (some ⟨b5, 0, none⟩) k k, .map (some b6), .slice none 0 0] 327) = y := ⟨_, rfl⟩
      rw [hy8, hw8]
      have hx8 : Below y2.heap.size y2 y8 := by rw [← hy8]; exact balloc (Below.refl _ _) _
      have HN8 : Hid (y8.heap[b8]? = some (.cells #[.slice (some ⟨b2, 0, none⟩) m m, .slice (some ⟨b5, 0, none⟩) k k, .map (some b6), .slice none 0 0] 327 (0, 0))) := Lib.hid (by rw [← hy8, ← hw8]; exact heap_alloc_new _ _)
      have HG8 : Hid (w3.heap.size ≤ b8) := Lib.hid (by have := HBE.out.size; omega)
      have HNE6_8 : Hid (b6 ≠ b8) := Lib.hid (by have := (Array.getElem?_eq_some_iff.1 HN6.out).1; omega)
      have HNE5_8 : Hid (b5 ≠ b8) := Lib.hid (by have := (Array.getElem?_eq_some_iff.1 HN5.out).1; omega)
      have HNE2_8 : Hid (b2 ≠ b8) := Lib.hid (by have := (Array.getElem?_eq_some_iff.1 HN2.out).1; omega)
      clear hy8 hw8
      have HBE := Lib.hid (bthen HBE.out hx8)
      have hSp := HSS.out _ HBE.out
      clear hHeld
      refine hK.out _ _ hSp (fun hHeld => ?_)
      clear hSp hK K
      try simp only [Act.put, List.setIfInBounds_toArray, List.set_cons_zero, List.set_cons_succ]
      have HN6 := Lib.hid ((hx8.block b6 (Array.getElem?_eq_some_iff.1 HN6.out).1).trans HN6.out)
      have HN5 := Lib.hid ((hx8.block b5 (Array.getElem?_eq_some_iff.1 HN5.out).1).trans HN5.out)
      have HN2 := Lib.hid ((hx8.block b2 (Array.getElem?_eq_some_iff.1 HN2.out).1).trans HN2.out)
      clear hx8
      refine wpAnyH_ready (rs := [9]) (by kernel_rfl) (by simp) ?_
      refine AllReadyH.cons rfl (fun K hK => ?_) (AllReadyH.nil)
      simp only [List.getElem_toArray, List.getElem_cons_zero, List.getElem_cons_succ]
      go_simp
      obtain ⟨b9, hw9⟩ : ∃ b, y8.heap.size = b := ⟨_, rfl⟩
      obtain ⟨y9, hy9⟩ : ∃ y, y8.alloc (.cells #[.pointer none] 323) = y := ⟨_, rfl⟩
      rw [hy9, hw9]
      have hx9 : Below y8.heap.size y8 y9 := by rw [← hy9]; exact balloc (Below.refl _ _) _
      have HN9 : Hid (y9.heap[b9]? = some (.cells #[.pointer none] 323 (0, 0))) := Lib.hid (by rw [← hy9, ← hw9]; exact heap_alloc_new _ _)
      have HG9 : Hid (w3.heap.size ≤ b9) := Lib.hid (by have := HBE.out.size; omega)
      have HNE6_9 : Hid (b6 ≠ b9) := Lib.hid (by have := (Array.getElem?_eq_some_iff.1 HN6.out).1; omega)
      have HNE5_9 : Hid (b5 ≠ b9) := Lib.hid (by have := (Array.getElem?_eq_some_iff.1 HN5.out).1; omega)
      have HNE2_9 : Hid (b2 ≠ b9) := Lib.hid (by have := (Array.getElem?_eq_some_iff.1 HN2.out).1; omega)
      have HNE8_9 : Hid (b8 ≠ b9) := Lib.hid (by have := (Array.getElem?_eq_some_iff.1 HN8.out).1; omega)
      clear hy9 hw9
      have HBE := Lib.hid (bthen HBE.out hx9)
      have hSp := HSS.out _ HBE.out
      clear hHeld
      refine hK.out _ _ hSp (fun hHeld => ?_)
      clear hSp hK K
      try simp only [Act.put, List.setIfInBounds_toArray, List.set_cons_zero, List.set_cons_succ]
      have HN6 := Lib.hid ((hx9.block b6 (Array.getElem?_eq_some_iff.1 HN6.out).1).trans HN6.out)
      have HN5 := Lib.hid ((hx9.block b5 (Array.getElem?_eq_some_iff.1 HN5.out).1).trans HN5.out)
      have HN2 := Lib.hid ((hx9.block b2 (Array.getElem?_eq_some_iff.1 HN2.out).1).trans HN2.out)
      have HN8 := Lib.hid ((hx9.block b8 (Array.getElem?_eq_some_iff.1 HN8.out).1).trans HN8.out)
      clear hx9
      refine wpAnyH_ready (rs := [10]) (by kernel_rfl) (by simp) ?_
      refine AllReadyH.cons rfl (fun K hK => ?_) (AllReadyH.nil)
      have hc10_0 := cellOf HN9.out 0 rfl
      have hf10_0 := frozenOf HN9.out 0
      simp only [List.getElem_toArray, List.getElem_cons_zero, List.getElem_cons_succ]
      go_simp
      obtain ⟨y10, hy10⟩ : ∃ y, (y9.setCell ⟨b9, 0, none⟩ (.pointer (some ⟨b8, 0, none⟩))) = y := ⟨_, rfl⟩
      rw [hy10]
      have hm10 : Mods [b9] y9 y10 := by rw [← hy10]; exact (Mods.refl [b9] y9).setCell (p := ⟨b9, 0, none⟩) (by simp) _
      have hv10 := setOf (HN9.out) 0 (.pointer (some ⟨b8, 0, none⟩))
      rw [hy10] at hv10
      clear hy10 hc10_0 hf10_0
      have HBE : Hid (Below w3.heap.size w3 y10) := Lib.hid (HBE.out.trans (hm10.below (fun k hk => by have := HG9.out; have e := List.mem_singleton.1 hk; omega) HBE.out.size))
      have hSp := HSS.out _ HBE.out
      clear hHeld
      refine hK.out _ _ hSp (fun hHeld => ?_)
      clear hSp hK K
      try simp only [Act.put, List.setIfInBounds_toArray, List.set_cons_zero, List.set_cons_succ]
      have HN6 := Lib.hid ((hm10.block b6 (Array.getElem?_eq_some_iff.1 HN6.out).1 (fun h => by have e := List.mem_singleton.1 h; have := HNE6_9.out; omega)).trans HN6.out)
      have HN5 := Lib.hid ((hm10.block b5 (Array.getElem?_eq_some_iff.1 HN5.out).1 (fun h => by have e := List.mem_singleton.1 h; have := HNE5_9.out; omega)).trans HN5.out)
      have HN2 := Lib.hid ((hm10.block b2 (Array.getElem?_eq_some_iff.1 HN2.out).1 (fun h => by have e := List.mem_singleton.1 h; have := HNE2_9.out; omega)).trans HN2.out)
      have HN8 := Lib.hid ((hm10.block b8 (Array.getElem?_eq_some_iff.1 HN8.out).1 (fun h => by have e := List.mem_singleton.1 h; have := HNE8_9.out; omega)).trans HN8.out)
      simp only [List.setIfInBounds_toArray, List.set_cons_zero, List.set_cons_succ] at hv10
      have HN9 := Lib.hid hv10
      clear hv10 hm10
      refine wpAnyH_done (by kernel_rfl) ?_ _
      have HEND := Lib.hid hHeld.2
      have HSE := Lib.hid hHeld.1
      clear hHeld
      clear HSE HSS
      go_wp2_with fail
      go_meet
      exact ⟨_, b9, b8, b2, b5, b6, rfl, rfl, HEND.out, HG2.out, HN9.out, ⟨HN8.out, HN2.out, HN5.out, HNE2_5.out⟩⟩
     ·skip
      simp only [List.getElem_toArray, List.getElem_cons_zero, List.getElem_cons_succ]
      go_simp
      obtain ⟨b9, hw9⟩ : ∃ b, y2.heap.size = b := ⟨_, rfl⟩
      obtain ⟨y9, hy9⟩ : ∃ y, y2.alloc (.cells #[.pointer none] 323) = y := ⟨_, rfl⟩
      rw [hy9, hw9]
      have hx9 : Below y2.heap.size y2 y9 := by rw [← hy9]; exact balloc (Below.refl _ _) _
      have HN9 : Hid (y9.heap[b9]? = some (.cells #[.pointer none] 323 (0, 0))) := Lib.hid (by rw [← hy9, ← hw9]; exact heap_alloc_new _ _)
      have HG9 : Hid (w3.heap.size ≤ b9) := Lib.hid (by have := HBE.out.size; omega)
      have HNE6_9 : Hid (b6 ≠ b9) := Lib.hid (by have := (Array.getElem?_eq_some_iff.1 HN6.out).1; omega)
      have HNE5_9 : Hid (b5 ≠ b9) := Lib.hid (by have := (Array.getElem?_eq_some_iff.1 HN5.out).1; omega)
      have HNE2_9 : Hid (b2 ≠ b9) := Lib.hid (by have := (Array.getElem?_eq_some_iff.1 HN2.out).1; omega)
      clear hy9 hw9
      have HBE := Lib.hid (bthen HBE.out hx9)
      have hSp := HSS.out _ HBE.out
      clear hHeld
      refine hK.out _ _ hSp (fun hHeld => ?_)
      clear hSp hK K
      try simp only [Act.put, List.setIfInBounds_toArray, List.set_cons_zero, List.set_cons_succ]
      have HN6 := Lib.hid ((hx9.block b6 (Array.getElem?_eq_some_iff.1 HN6.out).1).trans HN6.out)
      have HN5 := Lib.hid ((hx9.block b5 (Array.getElem?_eq_some_iff.1 HN5.out).1).trans HN5.out)
      have HN2 := Lib.hid ((hx9.block b2 (Array.getElem?_eq_some_iff.1 HN2.out).1).trans HN2.out)
      clear hx9
      refine wpAnyH_ready (rs := [8]) (by kernel_rfl) (by simp) ?_
      refine AllReadyH.cons rfl (fun K hK => ?_) (AllReadyH.nil)
      simp only [List.getElem_toArray, List.getElem_cons_zero, List.getElem_cons_succ]
      go_simp
      obtain ⟨b8, hw8⟩ : ∃ b, y9.heap.size = b := ⟨_, rfl⟩
      obtain ⟨y8, hy8⟩ : ∃ y, y9.alloc (.cells #[.slice (some ⟨b2, 0, none⟩) m m, .slice (some ⟨b5, 0, none⟩) k k, .map (some b6), .slice none 0 0] 327) = y := ⟨_, rfl⟩
      rw [hy8, hw8]
      have hx8 : Below y9.heap.size y9 y8 := by rw [← hy8]; exact balloc (Below.refl _ _) _
      have HN8 : Hid (y8.heap[b8]? = some (.cells #[.slice (some ⟨b2, 0, none⟩) m m, .slice (some ⟨b5, 0, none⟩) k k, .map (some b6), .slice none 0 0] 327 (0, 0))) := Lib.hid (by rw [← hy8, ← hw8]; exact heap_alloc_new _ _)
      have HG8 : Hid (w3.heap.size ≤ b8) := Lib.hid (by have := HBE.out.size; omega)
      have HNE6_8 : Hid (b6 ≠ b8) := Lib.hid (by have := (Array.getElem?_eq_some_iff.1 HN6.out).1; omega)
      have HNE5_8 : Hid (b5 ≠ b8) := Lib.hid (by have := (Array.getElem?_eq_some_iff.1 HN5.out).1; omega)
      have HNE2_8 : Hid (b2 ≠ b8) := Lib.hid (by have := (Array.getElem?_eq_some_iff.1 HN2.out).1; omega)
      have HNE8_9 : Hid (b8 ≠ b9) := Lib.hid (by have := (Array.getElem?_eq_some_iff.1 HN9.out).1; omega)
      clear hy8 hw8
      have HBE := Lib.hid (bthen HBE.out hx8)
      have hSp := HSS.out _ HBE.out
      clear hHeld
      refine hK.out _ _ hSp (fun hHeld => ?_)
      clear hSp hK K
      try simp only [Act.put, List.setIfInBounds_toArray, List.set_cons_zero, List.set_cons_succ]
      have HN6 := Lib.hid ((hx8.block b6 (Array.getElem?_eq_some_iff.1 HN6.out).1).trans HN6.out)
      have HN5 := Lib.hid ((hx8.block b5 (Array.getElem?_eq_some_iff.1 HN5.out).1).trans HN5.out)
      have HN2 := Lib.hid ((hx8.block b2 (Array.getElem?_eq_some_iff.1 HN2.out).1).trans HN2.out)
      have HN9 := Lib.hid ((hx8.block b9 (Array.getElem?_eq_some_iff.1 HN9.out).1).trans HN9.out)
      clear hx8
      refine wpAnyH_ready (rs := [10]) (by kernel_rfl) (by simp) ?_
      refine AllReadyH.cons rfl (fun K hK => ?_) (AllReadyH.nil)
      have hc10_0 := cellOf HN9.out 0 rfl
      have hf10_0 := frozenOf HN9.out 0
      simp only [List.getElem_toArray, List.getElem_cons_zero, List.getElem_cons_succ]
      go_simp
      obtain ⟨y10, hy10⟩ : ∃ y, (y8.setCell ⟨b9, 0, none⟩ (.pointer (some ⟨b8, 0, none⟩))) = y := ⟨_, rfl⟩
      rw [hy10]
      have hm10 : Mods [b9] y8 y10 := by rw [← hy10]; exact (Mods.refl [b9] y8).setCell (p := ⟨b9, 0, none⟩) (by simp) _
      have hv10 := setOf (HN9.out) 0 (.pointer (some ⟨b8, 0, none⟩))
      rw [hy10] at hv10
      clear hy10 hc10_0 hf10_0
      have HBE : Hid (Below w3.heap.size w3 y10) := Lib.hid (HBE.out.trans (hm10.below (fun k hk => by have := HG9.out; have e := List.mem_singleton.1 hk; omega) HBE.out.size))
      have hSp := HSS.out _ HBE.out
      clear hHeld
      refine hK.out _ _ hSp (fun hHeld => ?_)
      clear hSp hK K
      try simp only [Act.put, List.setIfInBounds_toArray, List.set_cons_zero, List.set_cons_succ]
      have HN6 := Lib.hid ((hm10.block b6 (Array.getElem?_eq_some_iff.1 HN6.out).1 (fun h => by have e := List.mem_singleton.1 h; have := HNE6_9.out; omega)).trans HN6.out)
      have HN5 := Lib.hid ((hm10.block b5 (Array.getElem?_eq_some_iff.1 HN5.out).1 (fun h => by have e := List.mem_singleton.1 h; have := HNE5_9.out; omega)).trans HN5.out)
      have HN2 := Lib.hid ((hm10.block b2 (Array.getElem?_eq_some_iff.1 HN2.out).1 (fun h => by have e := List.mem_singleton.1 h; have := HNE2_9.out; omega)).trans HN2.out)
      have HN8 := Lib.hid ((hm10.block b8 (Array.getElem?_eq_some_iff.1 HN8.out).1 (fun h => by have e := List.mem_singleton.1 h; have := HNE8_9.out; omega)).trans HN8.out)
      simp only [List.setIfInBounds_toArray, List.set_cons_zero, List.set_cons_succ] at hv10
      have HN9 := Lib.hid hv10
      clear hv10 hm10
      refine wpAnyH_done (by kernel_rfl) ?_ _
      have HEND := Lib.hid hHeld.2
      have HSE := Lib.hid hHeld.1
      clear hHeld
      clear HSE HSS
      go_wp2_with fail
      go_meet
      exact ⟨_, b9, b8, b2, b5, b6, rfl, rfl, HEND.out, HG2.out, HN9.out, ⟨HN8.out, HN2.out, HN5.out, HNE2_5.out⟩⟩
    ·skip
     simp only [List.getElem_toArray, List.getElem_cons_zero, List.getElem_cons_succ]
     go_simp
     obtain ⟨b9, hw9⟩ : ∃ b, y5.heap.size = b := ⟨_, rfl⟩
     obtain ⟨y9, hy9⟩ : ∃ y, y5.alloc (.cells #[.pointer none] 323) = y := ⟨_, rfl⟩
     rw [hy9, hw9]
     have hx9 : Below y5.heap.size y5 y9 := by rw [← hy9]; exact balloc (Below.refl _ _) _
     have HN9 : Hid (y9.heap[b9]? = some (.cells #[.pointer none] 323 (0, 0))) := Lib.hid (by rw [← hy9, ← hw9]; exact heap_alloc_new _ _)
     have HG9 : Hid (w3.heap.size ≤ b9) := Lib.hid (by have := HBE.out.size; omega)
     have HNE6_9 : Hid (b6 ≠ b9) := Lib.hid (by have := (Array.getElem?_eq_some_iff.1 HN6.out).1; omega)
     have HNE5_9 : Hid (b5 ≠ b9) := Lib.hid (by have := (Array.getElem?_eq_some_iff.1 HN5.out).1; omega)
     clear hy9 hw9
     have HBE := Lib.hid (bthen HBE.out hx9)
     have hSp := HSS.out _ HBE.out
     clear hHeld
     refine hK.out _ _ hSp (fun hHeld => ?_)
     clear hSp hK K
     try simp only [Act.put, List.setIfInBounds_toArray, List.set_cons_zero, List.set_cons_succ]
     have HN6 := Lib.hid ((hx9.block b6 (Array.getElem?_eq_some_iff.1 HN6.out).1).trans HN6.out)
     have HN5 := Lib.hid ((hx9.block b5 (Array.getElem?_eq_some_iff.1 HN5.out).1).trans HN5.out)
     clear hx9
     refine wpAnyH_ready (rs := [2]) (by kernel_rfl) (by simp) ?_
     refine AllReadyH.cons rfl (fun K hK => ?_) (AllReadyH.nil)
     have hmm := run_mkI y9 m (by omega)
     simp only [List.getElem_toArray, List.getElem_cons_zero, List.getElem_cons_succ]
     go_simp
     clear hmm
     obtain ⟨b2, hw2⟩ : ∃ b, y9.heap.size = b := ⟨_, rfl⟩
     obtain ⟨y2, hy2⟩ : ∃ y, y9.alloc (.cells (iV (List.replicate m 0)).toArray 3) = y := ⟨_, rfl⟩
     rw [hy2, hw2]
     have hx2 : Below y9.heap.size y9 y2 := by rw [← hy2]; exact balloc (Below.refl _ _) _
     have HN2 : Hid (y2.heap[b2]? = some (.cells (iV (List.replicate m 0)).toArray 3 (0, 0))) := Lib.hid (by rw [← hy2, ← hw2]; exact heap_alloc_new _ _)
     have HG2 : Hid (w3.heap.size ≤ b2) := Lib.hid (by have := HBE.out.size; omega)
     have HNE2_6 : Hid (b2 ≠ b6) := Lib.hid (by have := (Array.getElem?_eq_some_iff.1 HN6.out).1; omega)
     have HNE2_5 : Hid (b2 ≠ b5) := Lib.hid (by have := (Array.getElem?_eq_some_iff.1 HN5.out).1; omega)
     have HNE2_9 : Hid (b2 ≠ b9) := Lib.hid (by have := (Array.getElem?_eq_some_iff.1 HN9.out).1; omega)
     clear hy2 hw2
     have HBE := Lib.hid (bthen HBE.out hx2)
     have hSp := HSS.out _ HBE.out
     clear hHeld
     refine hK.out _ _ hSp (fun hHeld => ?_)
     clear hSp hK K
     try simp only [Act.put, List.setIfInBounds_toArray, List.set_cons_zero, List.set_cons_succ]
     have HN6 := Lib.hid ((hx2.block b6 (Array.getElem?_eq_some_iff.1 HN6.out).1).trans HN6.out)
     have HN5 := Lib.hid ((hx2.block b5 (Array.getElem?_eq_some_iff.1 HN5.out).1).trans HN5.out)
     have HN9 := Lib.hid ((hx2.block b9 (Array.getElem?_eq_some_iff.1 HN9.out).1).trans HN9.out)
     clear hx2
     refine wpAnyH_take (i := 7) (v := .agg #[.slice (some ⟨b2, 0, none⟩) m m, .slice (some ⟨b5, 0, none⟩) k k, .map (some b6), .slice none 0 0]) rfl (by kernel_rfl) (by kernel_rfl) (by kernel_rfl) (fun _ _ _ h => h) (Or.inl ⟨by rfl, ?_⟩) (by assumption) ?_
     ·(intro w hSw; simp only [List.getElem_toArray, List.getElem_cons_zero, List.getElem_cons_succ]; (have hbu := nm_built b2 m b5 k b6; go_simp; first | done | with_reducible rfl))
     simp only [List.getElem_toArray, List.getElem_cons_zero, List.getElem_cons_succ, Act.put, List.setIfInBounds_toArray, List.set_cons_zero, List.set_cons_succ]
     refine wpAnyH_ready (rs := [8]) (by kernel_rfl) (by simp) ?_
     refine AllReadyH.cons rfl (fun K hK => ?_) (AllReadyH.nil)
     simp only [List.getElem_toArray, List.getElem_cons_zero, List.getElem_cons_succ]
     go_simp
     obtain ⟨b8, hw8⟩ : ∃ b, y2.heap.size = b := ⟨_, rfl⟩
     obtain ⟨y8, hy8⟩ : ∃ y, y2.alloc (.cells #[.slice (some ⟨b2, 0, none⟩) m m, .slice (some ⟨b5, 0, none⟩) k k, .map (some b6), .slice none 0 0] 327) = y := ⟨_, rfl⟩
     rw [hy8, hw8]
     have hx8 : Below y2.heap.size y2 y8 := by rw [← hy8]; exact balloc (Below.refl _ _) _
     have HN8 : Hid (y8.heap[b8]? = some (.cells #[.slice (some ⟨b2, 0, none⟩) m m, .slice (some ⟨b5, 0, none⟩) k k, .map (some b6), .slice none 0 0] 327 (0, 0))) := Lib.hid (by rw [← hy8, ← hw8]; exact heap_alloc_new _ _)
     have HG8 : Hid (w3.heap.size ≤ b8) := Lib.hid (by have := HBE.out.size; omega)
     have HNE6_8 : Hid (b6 ≠ b8) := Lib.hid (by have := (Array.getElem?_eq_some_iff.1 HN6.out).1; omega)
     have HNE5_8 : Hid (b5 ≠ b8) := Lib.hid (by have := (Array.getElem?_eq_some_iff.1 HN5.out).1; omega)
     have HNE8_9 : Hid (b8 ≠ b9) := Lib.hid (by have := (Array.getElem?_eq_some_iff.1 HN9.out).1; omega)
     have HNE2_8 : Hid (b2 ≠ b8) := Lib.hid (by have := (Array.getElem?_eq_some_iff.1 HN2.out).1; omega)
     clear hy8 hw8
     have HBE := Lib.hid (bthen HBE.out hx8)
     have hSp := HSS.out _ HBE.out
     clear hHeld
     refine hK.out _ _ hSp (fun hHeld => ?_)
     clear hSp hK K
     try simp only [Act.put, List.setIfInBounds_toArray, List.set_cons_zero, List.set_cons_succ]
     have HN6 := Lib.hid ((hx8.block b6 (Array.getElem?_eq_some_iff.1 HN6.out).1).trans HN6.out)
     have HN5 := Lib.hid ((hx8.block b5 (Array.getElem?_eq_some_iff.1 HN5.out).1).trans HN5.out)
     have HN9 := Lib.hid ((hx8.block b9 (Array.getElem?_eq_some_iff.1 HN9.out).1).trans HN9.out)
     have HN2 := Lib.hid ((hx8.block b2 (Array.getElem?_eq_some_iff.1 HN2.out).1).trans HN2.out)
     clear hx8
     refine wpAnyH_ready (rs := [10]) (by kernel_rfl) (by simp) ?_
     refine AllReadyH.cons rfl (fun K hK => ?_) (AllReadyH.nil)
     have hc10_0 := cellOf HN9.out 0 rfl
     have hf10_0 := frozenOf HN9.out 0
     simp only [List.getElem_toArray, List.getElem_cons_zero, List.getElem_cons_succ]
     go_simp
     obtain ⟨y10, hy10⟩ : ∃ y, (y8.setCell ⟨b9, 0, none⟩ (.pointer (some ⟨b8, 0, none⟩))) = y := ⟨_, rfl⟩
     rw [hy10]
     have hm10 : Mods [b9] y8 y10 := by rw [← hy10]; exact (Mods.refl [b9] y8).setCell (p := ⟨b9, 0, none⟩) (by simp) _
     have hv10 := setOf (HN9.out) 0 (.pointer (some ⟨b8, 0, none⟩))
     rw [hy10] at hv10
     clear hy10 hc10_0 hf10_0
     have HBE : Hid (Below w3.heap.size w3 y10) := Lib.hid (HBE.out.trans (hm10.below (fun k hk => by have := HG9.out; have e := List.mem_singleton.1 hk; omega) HBE.out.size))
     have hSp := HSS.out _ HBE.out
     clear hHeld
     refine hK.out _ _ hSp (fun hHeld => ?_)
     clear hSp hK K
     try simp only [Act.put, List.setIfInBounds_toArray, List.set_cons_zero, List.set_cons_succ]
     have HN6 := Lib.hid ((hm10.block b6 (Array.getElem?_eq_some_iff.1 HN6.out).1 (fun h => by have e := List.mem_singleton.1 h; have := HNE6_9.out; omega)).trans HN6.out)
     have HN5 := Lib.hid ((hm10.block b5 (Array.getElem?_eq_some_iff.1 HN5.out).1 (fun h => by have e := List.mem_singleton.1 h; have := HNE5_9.out; omega)).trans HN5.out)
     have HN2 := Lib.hid ((hm10.block b2 (Array.getElem?_eq_some_iff.1 HN2.out).1 (fun h => by have e := List.mem_singleton.1 h; have := HNE2_9.out; omega)).trans HN2.out)
     have HN8 := Lib.hid ((hm10.block b8 (Array.getElem?_eq_some_iff.1 HN8.out).1 (fun h => by have e := List.mem_singleton.1 h; have := HNE8_9.out; omega)).trans HN8.out)
     simp only [List.setIfInBounds_toArray, List.set_cons_zero, List.set_cons_succ] at hv10
     have HN9 := Lib.hid hv10
     clear hv10 hm10
     refine wpAnyH_done (by kernel_rfl) ?_ _
     have HEND := Lib.hid hHeld.2
     have HSE := Lib.hid hHeld.1
     clear hHeld
     clear HSE HSS
     go_wp2_with fail
     go_meet
     exact ⟨_, b9, b8, b2, b5, b6, rfl, rfl, HEND.out, HG2.out, HN9.out, ⟨HN8.out, HN2.out, HN5.out, HNE2_5.out⟩⟩
   ·skip
    simp only [List.getElem_toArray, List.getElem_cons_zero, List.getElem_cons_succ]
    go_simp
    obtain ⟨b9, hw9⟩ : ∃ b, y6.heap.size = b := ⟨_, rfl⟩
    obtain ⟨y9, hy9⟩ : ∃ y, y6.alloc (.cells #[.pointer none] 323) = y := ⟨_, rfl⟩
    rw [hy9, hw9]
    have hx9 : Below y6.heap.size y6 y9 := by rw [← hy9]; exact balloc (Below.refl _ _) _
    have HN9 : Hid (y9.heap[b9]? = some (.cells #[.pointer none] 323 (0, 0))) := Lib.hid (by rw [← hy9, ← hw9]; exact heap_alloc_new _ _)
    have HG9 : Hid (w3.heap.size ≤ b9) := Lib.hid (by have := HBE.out.size; omega)
    have HNE6_9 : Hid (b6 ≠ b9) := Lib.hid (by have := (Array.getElem?_eq_some_iff.1 HN6.out).1; omega)
    clear hy9 hw9
    have HBE := Lib.hid (bthen HBE.out hx9)
    have hSp := HSS.out _ HBE.out
    clear hHeld
    refine hK.out _ _ hSp (fun hHeld => ?_)
    clear hSp hK K
    try simp only [Act.put, List.setIfInBounds_toArray, List.set_cons_zero, List.set_cons_succ]
    have HN6 := Lib.hid ((hx9.block b6 (Array.getElem?_eq_some_iff.1 HN6.out).1).trans HN6.out)
    clear hx9
    refine wpAnyH_ready (rs := [2, 5]) (by kernel_rfl) (by simp) ?_
    refine AllReadyH.cons rfl (fun K hK => ?_) (AllReadyH.cons rfl (fun K hK => ?_) (AllReadyH.nil))
    ·skip
     have hmm := run_mkI y9 m (by omega)
     simp only [List.getElem_toArray, List.getElem_cons_zero, List.getElem_cons_succ]
     go_simp
     clear hmm
     obtain ⟨b2, hw2⟩ : ∃ b, y9.heap.size = b := ⟨_, rfl⟩
     obtain ⟨y2, hy2⟩ : ∃ y, y9.alloc (.cells (iV (List.replicate m 0)).toArray 3) = y := ⟨_, rfl⟩
     rw [hy2, hw2]
     have hx2 : Below y9.heap.size y9 y2 := by rw [← hy2]; exact balloc (Below.refl _ _) _
     have HN2 : Hid (y2.heap[b2]? = some (.cells (iV (List.replicate m 0)).toArray 3 (0, 0))) := Lib.hid (by rw [← hy2, ← hw2]; exact heap_alloc_new _ _)
     have HG2 : Hid (w3.heap.size ≤ b2) := Lib.hid (by have := HBE.out.size; omega)
     have HNE2_6 : Hid (b2 ≠ b6) := Lib.hid (by have := (Array.getElem?_eq_some_iff.1 HN6.out).1; omega)
     have HNE2_9 : Hid (b2 ≠ b9) := Lib.hid (by have := (Array.getElem?_eq_some_iff.1 HN9.out).1; omega)
     clear hy2 hw2
     have HBE := Lib.hid (bthen HBE.out hx2)
     have hSp := HSS.out _ HBE.out
     clear hHeld
     refine hK.out _ _ hSp (fun hHeld => ?_)
     clear hSp hK K
     try simp only [Act.put, List.setIfInBounds_toArray, List.set_cons_zero, List.set_cons_succ]
     have HN6 := Lib.hid ((hx2.block b6 (Array.getElem?_eq_some_iff.1 HN6.out).1).trans HN6.out)
     have HN9 := Lib.hid ((hx2.block b9 (Array.getElem?_eq_some_iff.1 HN9.out).1).trans HN9.out)
     clear hx2
     refine wpAnyH_ready (rs := [5]) (by kernel_rfl) (by simp) ?_
     refine AllReadyH.cons rfl (fun K hK => ?_) (AllReadyH.nil)
     have hmm := run_mkI y2 k (by omega)
     simp only [List.getElem_toArray, List.getElem_cons_zero, List.getElem_cons_succ]
     go_simp
     clear hmm
     obtain ⟨b5, hw5⟩ : ∃ b, y2.heap.size = b := ⟨_, rfl⟩
     obtain ⟨y5, hy5⟩ : ∃ y, y2.alloc (.cells (iV (List.replicate k 0)).toArray 3) = y := ⟨_, rfl⟩
     rw [hy5, hw5]
     have hx5 : Below y2.heap.size y2 y5 := by rw [← hy5]; exact balloc (Below.refl _ _) _
     have HN5 : Hid (y5.heap[b5]? = some (.cells (iV (List.replicate k 0)).toArray 3 (0, 0))) := Lib.hid (by rw [← hy5, ← hw5]; exact heap_alloc_new _ _)
     have HG5 : Hid (w3.heap.size ≤ b5) := Lib.hid (by have := HBE.out.size; omega)
     have HNE5_6 : Hid (b5 ≠ b6) := Lib.hid (by have := (Array.getElem?_eq_some_iff.1 HN6.out).1; omega)
     have HNE5_9 : Hid (b5 ≠ b9) := Lib.hid (by have := (Array.getElem?_eq_some_iff.1 HN9.out).1; omega)
     have HNE2_5 : Hid (b2 ≠ b5) := Lib.hid (by have := (Array.getElem?_eq_some_iff.1 HN2.out).1; omega)
     clear hy5 hw5
     have HBE := Lib.hid (bthen HBE.out hx5)
     have hSp := HSS.out _ HBE.out
     clear hHeld
     refine hK.out _ _ hSp (fun hHeld => ?_)
     clear hSp hK K
     try simp only [Act.put, List.setIfInBounds_toArray, List.set_cons_zero, List.set_cons_succ]
     have HN6 := Lib.hid ((hx5.block b6 (Array.getElem?_eq_some_iff.1 HN6.out).1).trans HN6.out)
     have HN9 := Lib.hid ((hx5.block b9 (Array.getElem?_eq_some_iff.1 HN9.out).1).trans HN9.out)
     have HN2 := Lib.hid ((hx5.block b2 (Array.getElem?_eq_some_iff.1 HN2.out).1).trans HN2.out)
     clear hx5
     refine wpAnyH_take (i := 7) (v := .agg #[.slice (some ⟨b2, 0, none⟩) m m, .slice (some ⟨b5, 0, none⟩) k k, .map (some b6), .slice none 0 0]) rfl (by kernel_rfl) (by kernel_rfl) (by kernel_rfl) (fun _ _ _ h => h) (Or.inl ⟨by rfl, ?_⟩) (by assumption) ?_
     ·(intro w hSw; simp only [List.getElem_toArray, List.getElem_cons_zero, List.getElem_cons_succ]; (have hbu := nm_built b2 m b5 k b6; go_simp; first | done | with_reducible rfl))
     simp only [List.getElem_toArray, List.getElem_cons_zero, List.getElem_cons_succ, Act.put, List.setIfInBounds_toArray, List.set_cons_zero, List.set_cons_succ]
     refine wpAnyH_ready (rs := [8]) (by kernel_rfl) (by simp) ?_
     refine AllReadyH.cons rfl (fun K hK => ?_) (AllReadyH.nil)
     simp only [List.getElem_toArray, List.getElem_cons_zero, List.getElem_cons_succ]
     go_simp
     obtain ⟨b8, hw8⟩ : ∃ b, y5.heap.size = b := ⟨_, rfl⟩
     obtain ⟨y8, hy8⟩ : ∃ y, y5.alloc (.cells #[.slice (some ⟨b2, 0, none⟩) m m, .slice (some ⟨b5, 0, none⟩) k k, .map (some b6), .slice none 0 0] 327) = y := ⟨_, rfl⟩
     rw [hy8, hw8]
     have hx8 : Below y5.heap.size y5 y8 := by rw [← hy8]; exact balloc (Below.refl _ _) _
     have HN8 : Hid (y8.heap[b8]? = some (.cells #[.slice (some ⟨b2, 0, none⟩) m m, .slice (some ⟨b5, 0, none⟩) k k, .map (some b6), .slice none 0 0] 327 (0, 0))) := Lib.hid (by rw [← hy8, ← hw8]; exact heap_alloc_new _ _)
     have HG8 : Hid (w3.heap.size ≤ b8) := Lib.hid (by have := HBE.out.size; omega)
     have HNE6_8 : Hid (b6 ≠ b8) := Lib.hid (by have := (Array.getElem?_eq_some_iff.1 HN6.out).1; omega)
     have HNE8_9 : Hid (b8 ≠ b9) := Lib.hid (by have := (Array.getElem?_eq_some_iff.1 HN9.out).1; omega)
     have HNE2_8 : Hid (b2 ≠ b8) := Lib.hid (by have := (Array.getElem?_eq_some_iff.1 HN2.out).1; omega)
     have HNE5_8 : Hid (b5 ≠ b8) := Lib.hid (by have := (Array.getElem?_eq_some_iff.1 HN5.out).1; omega)
     clear hy8 hw8
     have HBE := Lib.hid (bthen HBE.out hx8)
     have hSp := HSS.out _ HBE.out
     clear hHeld
     refine hK.out _ _ hSp (fun hHeld => ?_)
     clear hSp hK K
     try simp only [Act.put, List.setIfInBounds_toArray, List.set_cons_zero, List.set_cons_succ]
     have HN6 := Lib.hid ((hx8.block b6 (Array.getElem?_eq_some_iff.1 HN6.out).1).trans HN6.out)
     have HN9 := Lib.hid ((hx8.block b9 (Array.getElem?_eq_some_iff.1 HN9.out).1).trans HN9.out)
     have HN2 := Lib.hid ((hx8.block b2 (Array.getElem?_eq_some_iff.1 HN2.out).1).trans HN2.out)
     have HN5 := Lib.hid ((hx8.block b5 (Array.getElem?_eq_some_iff.1 HN5.out).1).trans HN5.out)
     clear hx8
     refine wpAnyH_ready (rs := [10]) (by kernel_rfl) (by simp) ?_
     refine AllReadyH.cons rfl (fun K hK => ?_) (AllReadyH.nil)
     have hc10_0 := cellOf HN9.out 0 rfl
     have hf10_0 := frozenOf HN9.out 0
     simp only [List.getElem_toArray, List.getElem_cons_zero, List.getElem_cons_succ]
     go_simp
     obtain ⟨y10, hy10⟩ : ∃ y, (y8.setCell ⟨b9, 0, none⟩ (.pointer (some ⟨b8, 0, none⟩))) = y := ⟨_, rfl⟩
     rw [hy10]
     have hm10 : Mods [b9] y8 y10 := by rw [← hy10]; exact (Mods.refl [b9] y8).setCell (p := ⟨b9, 0, none⟩) (by simp) _
     have hv10 := setOf (HN9.out) 0 (.pointer (some ⟨b8, 0, none⟩))
     rw [hy10] at hv10
     clear hy10 hc10_0 hf10_0
     have HBE : Hid (Below w3.heap.size w3 y10) := Lib.hid (HBE.out.trans (hm10.below (fun k hk => by have := HG9.out; have e := List.mem_singleton.1 hk; omega) HBE.out.size))
     have hSp := HSS.out _ HBE.out
     clear hHeld
     refine hK.out _ _ hSp (fun hHeld => ?_)
     clear hSp hK K
     try simp only [Act.put, List.setIfInBounds_toArray, List.set_cons_zero, List.set_cons_succ]
     have HN6 := Lib.hid ((hm10.block b6 (Array.getElem?_eq_some_iff.1 HN6.out).1 (fun h => by have e := List.mem_singleton.1 h; have := HNE6_9.out; omega)).trans HN6.out)
     have HN2 := Lib.hid ((hm10.block b2 (Array.getElem?_eq_some_iff.1 HN2.out).1 (fun h => by have e := List.mem_singleton.1 h; have := HNE2_9.out; omega)).trans HN2.out)
     have HN5 := Lib.hid ((hm10.block b5 (Array.getElem?_eq_some_iff.1 HN5.out).1 (fun h => by have e := List.mem_singleton.1 h; have := HNE5_9.out; omega)).trans HN5.out)
     have HN8 := Lib.hid ((hm10.block b8 (Array.getElem?_eq_some_iff.1 HN8.out).1 (fun h => by have e := List.mem_singleton.1 h; have := HNE8_9.out; omega)).trans HN8.out)
     simp only [List.setIfInBounds_toArray, List.set_cons_zero, List.set_cons_succ] at hv10
     have HN9 := Lib.hid hv10
     clear hv10 hm10
     refine wpAnyH_done (by kernel_rfl) ?_ _
     have HEND := Lib.hid hHeld.2
     have HSE := Lib.hid hHeld.1
     clear hHeld
     clear HSE HSS
     go_wp2_with fail
     go_meet
     exact ⟨_, b9, b8, b2, b5, b6, rfl, rfl, HEND.out, HG2.out, HN9.out, ⟨HN8.out, HN2.out, HN5.out, HNE2_5.out⟩⟩
    ·skip
     have hmm := run_mkI y9 k (by omega)
     simp only [List.getElem_toArray, List.getElem_cons_zero, List.getElem_cons_succ]
     go_simp
     clear hmm
     obtain ⟨b5, hw5⟩ : ∃ b, y9.heap.size = b := ⟨_, rfl⟩
     obtain ⟨y5, hy5⟩ : ∃ y, y9.alloc (.cells (iV (List.replicate k 0)).toArray 3) = y := ⟨_, rfl⟩
     rw [hy5, hw5]
     have hx5 : Below y9.heap.size y9 y5 := by rw [← hy5]; exact balloc (Below.refl _ _) _
     have HN5 : Hid (y5.heap[b5]? = some (.cells (iV (List.replicate k 0)).toArray 3 (0, 0))) := Lib.hid (by rw [← hy5, ← hw5]; exact heap_alloc_new _ _)
     have HG5 : Hid (w3.heap.size ≤ b5) := Lib.hid (by have := HBE.out.size; omega)
     have HNE5_6 : Hid (b5 ≠ b6) := Lib.hid (by have := (Array.getElem?_eq_some_iff.1 HN6.out).1; omega)
     have HNE5_9 : Hid (b5 ≠ b9) := Lib.hid (by have := (Array.getElem?_eq_some_iff.1 HN9.out).1; omega)
     clear hy5 hw5
     have HBE := Lib.hid (bthen HBE.out hx5)
     have hSp := HSS.out _ HBE.out
     clear hHeld
     refine hK.out _ _ hSp (fun hHeld => ?_)
     clear hSp hK K
     try simp only [Act.put, List.setIfInBounds_toArray, List.set_cons_zero, List.set_cons_succ]
     have HN6 := Lib.hid ((hx5.block b6 (Array.getElem?_eq_some_iff.1 HN6.out).1).trans HN6.out)
     have HN9 := Lib.hid ((hx5.block b9 (Array.getElem?_eq_some_iff.1 HN9.out).1).trans HN9.out)
     clear hx5
     refine wpAnyH_ready (rs := [2]) (by kernel_rfl) (by simp) ?_
     refine AllReadyH.cons rfl (fun K hK => ?_) (AllReadyH.nil)
     have hmm := run_mkI y5 m (by omega)
     simp only [List.getElem_toArray, List.getElem_cons_zero, List.getElem_cons_succ]
     go_simp
     clear hmm
     obtain ⟨b2, hw2⟩ : ∃ b, y5.heap.size = b := ⟨_, rfl⟩
     obtain ⟨y2, hy2⟩ : ∃ y, y5.alloc (.cells (iV (List.replicate m 0)).toArray 3) = y := ⟨_, rfl⟩
     rw [hy2, hw2]
     have hx2 : Below y5.heap.size y5 y2 := by rw [← hy2]; exact balloc (Below.refl _ _) _
     have HN2 : Hid (y2.heap[b2]? = some (.cells (iV (List.replicate m 0)).toArray 3 (0, 0))) := Lib.hid (by rw [← hy2, ← hw2]; exact heap_alloc_new _ _)
     have HG2 : Hid (w3.heap.size ≤ b2) := Lib.hid (by have := HBE.out.size; omega)
     have HNE2_6 : Hid (b2 ≠ b6) := Lib.hid (by have := (Array.getElem?_eq_some_iff.1 HN6.out).1; omega)
     have HNE2_9 : Hid (b2 ≠ b9) := Lib.hid (by have := (Array.getElem?_eq_some_iff.1 HN9.out).1; omega)
     have HNE2_5 : Hid (b2 ≠ b5) := Lib.hid (by have := (Array.getElem?_eq_some_iff.1 HN5.out).1; omega)
     clear hy2 hw2
     have HBE := Lib.hid (bthen HBE.out hx2)
     have hSp := HSS.out _ HBE.out
     clear hHeld
     refine hK.out _ _ hSp (fun hHeld => ?_)
     clear hSp hK K
     try simp only [Act.put, List.setIfInBounds_toArray, List.set_cons_zero, List.set_cons_succ]
     have HN6 := Lib.hid ((hx2.block b6 (Array.getElem?_eq_some_iff.1 HN6.out).1).trans HN6.out)
     have HN9 := Lib.hid ((hx2.block b9 (Array.getElem?_eq_some_iff.1 HN9.out).1).trans HN9.out)
     have HN5 := Lib.hid ((hx2.block b5 (Array.getElem?_eq_some_iff.1 HN5.out).1).trans HN5.out)
     clear hx2
     refine wpAnyH_take (i := 7) (v := .agg #[.slice (some ⟨b2, 0, none⟩) m m, .slice (some ⟨b5, 0, none⟩) k k, .map (some b6), .slice none 0 0]) rfl (by kernel_rfl) (by kernel_rfl) (by kernel_rfl) (fun _ _ _ h => h) (Or.inl ⟨by rfl, ?_⟩) (by assumption) ?_
     ·(intro w hSw; simp only [List.getElem_toArray, List.getElem_cons_zero, List.getElem_cons_succ]; (have hbu := nm_built b2 m b5 k b6; go_simp; first | done | with_reducible rfl))
     simp only [List.getElem_toArray, List.getElem_cons_zero, List.getElem_cons_succ, Act.put, List.setIfInBounds_toArray, List.set_cons_zero, List.set_cons_succ]
     refine wpAnyH_ready (rs := [8]) (by kernel_rfl) (by simp) ?_
     refine AllReadyH.cons rfl (fun K hK => ?_) (AllReadyH.nil)
     simp only [List.getElem_toArray, List.getElem_cons_zero, List.getElem_cons_succ]
     go_simp
     obtain ⟨b8, hw8⟩ : ∃ b, y2.heap.size = b := ⟨_, rfl⟩
     obtain ⟨y8, hy8⟩ : ∃ y, y2.alloc (.cells #[.slice (some ⟨b2, 0, none⟩) m m, .slice (some ⟨b5, 0, none⟩) k k, .map (some b6), .slice none 0 0] 327) = y := ⟨_, rfl⟩
     rw [hy8, hw8]
     have hx8 : Below y2.heap.size y2 y8 := by rw [← hy8]; exact balloc (Below.refl _ _) _
     have HN8 : Hid (y8.heap[b8]? = some (.cells #[.slice (some ⟨b2, 0, none⟩) m m, .slice (some ⟨b5, 0, none⟩) k k, .map (some b6), .slice none 0 0] 327 (0, 0))) := Lib.hid (by rw [← hy8, ← hw8]; exact heap_alloc_new _ _)
     have HG8 : Hid (w3.heap.size ≤ b8) := Lib.hid (by have := HBE.out.size; omega)
     have HNE6_8 : Hid (b6 ≠ b8) := Lib.hid (by have := (Array.getElem?_eq_some_iff.1 HN6.out).1; omega)
     have HNE8_9 : Hid (b8 ≠ b9) := Lib.hid (by have := (Array.getElem?_eq_some_iff.1 HN9.out).1; omega)
     have HNE5_8 : Hid (b5 ≠ b8) := Lib.hid (by have := (Array.getElem?_eq_some_iff.1 HN5.out).1; omega)
     have HNE2_8 : Hid (b2 ≠ b8) := Lib.hid (by have := (Array.getElem?_eq_some_iff.1 HN2.out).1; omega)
     clear hy8 hw8
     have HBE := Lib.hid (bthen HBE.out hx8)
     have hSp := HSS.out _ HBE.out
     clear hHeld
     refine hK.out _ _ hSp (fun hHeld => ?_)
     clear hSp hK K
     try simp only [Act.put, List.setIfInBounds_toArray, List.set_cons_zero, List.set_cons_succ]
     have HN6 := Lib.hid ((hx8.block b6 (Array.getElem?_eq_some_iff.1 HN6.out).1).trans HN6.out)
     have HN9 := Lib.hid ((hx8.block b9 (Array.getElem?_eq_some_iff.1 HN9.out).1).trans HN9.out)
     have HN5 := Lib.hid ((hx8.block b5 (Array.getElem?_eq_some_iff.1 HN5.out).1).trans HN5.out)
     have HN2 := Lib.hid ((hx8.block b2 (Array.getElem?_eq_some_iff.1 HN2.out).1).trans HN2.out)
     clear hx8
     refine wpAnyH_ready (rs := [10]) (by kernel_rfl) (by simp) ?_
     refine AllReadyH.cons rfl (fun K hK => ?_) (AllReadyH.nil)
     have hc10_0 := cellOf HN9.out 0 rfl
     have hf10_0 := frozenOf HN9.out 0
     simp only [List.getElem_toArray, List.getElem_cons_zero, List.getElem_cons_succ]
     go_simp
     obtain ⟨y10, hy10⟩ : ∃ y, (y8.setCell ⟨b9, 0, none⟩ (.pointer (some ⟨b8, 0, none⟩))) = y := ⟨_, rfl⟩
     rw [hy10]
     have hm10 : Mods [b9] y8 y10 := by rw [← hy10]; exact (Mods.refl [b9] y8).setCell (p := ⟨b9, 0, none⟩) (by simp) _
     have hv10 := setOf (HN9.out) 0 (.pointer (some ⟨b8, 0, none⟩))
     rw [hy10] at hv10
     clear hy10 hc10_0 hf10_0
     have HBE : Hid (Below w3.heap.size w3 y10) := Lib.hid (HBE.out.trans (hm10.below (fun k hk => by have := HG9.out; have e := List.mem_singleton.1 hk; omega) HBE.out.size))
     have hSp := HSS.out _ HBE.out
     clear hHeld
     refine hK.out _ _ hSp (fun hHeld => ?_)
     clear hSp hK K
     try simp only [Act.put, List.setIfInBounds_toArray, List.set_cons_zero, List.set_cons_succ]
     have HN6 := Lib.hid ((hm10.block b6 (Array.getElem?_eq_some_iff.1 HN6.out).1 (fun h => by have e := List.mem_singleton.1 h; have := HNE6_9.out; omega)).trans HN6.out)
     have HN5 := Lib.hid ((hm10.block b5 (Array.getElem?_eq_some_iff.1 HN5.out).1 (fun h => by have e := List.mem_singleton.1 h; have := HNE5_9.out; omega)).trans HN5.out)
     have HN2 := Lib.hid ((hm10.block b2 (Array.getElem?_eq_some_iff.1 HN2.out).1 (fun h => by have e := List.mem_singleton.1 h; have := HNE2_9.out; omega)).trans HN2.out)
     have HN8 := Lib.hid ((hm10.block b8 (Array.getElem?_eq_some_iff.1 HN8.out).1 (fun h => by have e := List.mem_singleton.1 h; have := HNE8_9.out; omega)).trans HN8.out)
     simp only [List.setIfInBounds_toArray, List.set_cons_zero, List.set_cons_succ] at hv10
     have HN9 := Lib.hid hv10
     clear hv10 hm10
     refine wpAnyH_done (by kernel_rfl) ?_ _
     have HEND := Lib.hid hHeld.2
     have HSE := Lib.hid hHeld.1
     clear hHeld
     clear HSE HSS
     go_wp2_with fail
     go_meet
     exact ⟨_, b9, b8, b2, b5, b6, rfl, rfl, HEND.out, HG2.out, HN9.out, ⟨HN8.out, HN2.out, HN5.out, HNE2_5.out⟩⟩
  ·skip
   simp only [List.getElem_toArray, List.getElem_cons_zero, List.getElem_cons_succ]
   go_simp
   obtain ⟨b9, hw9⟩ : ∃ b, wd.heap.size = b := ⟨_, rfl⟩
   obtain ⟨y9, hy9⟩ : ∃ y, wd.alloc (.cells #[.pointer none] 323) = y := ⟨_, rfl⟩
   rw [hy9, hw9]
   have hx9 : Below wd.heap.size wd y9 := by rw [← hy9]; exact balloc (Below.refl _ _) _
   have HN9 : Hid (y9.heap[b9]? = some (.cells #[.pointer none] 323 (0, 0))) := Lib.hid (by rw [← hy9, ← hw9]; exact heap_alloc_new _ _)
   have HG9 : Hid (w3.heap.size ≤ b9) := Lib.hid (by have := HBE.out.size; omega)
   clear hy9 hw9
   have HBE := Lib.hid (bthen HBE.out hx9)
   have hSp := HSS.out _ HBE.out
   clear hHeld
   refine hK.out _ _ hSp (fun hHeld => ?_)
   clear hSp hK K
   try simp only [Act.put, List.setIfInBounds_toArray, List.set_cons_zero, List.set_cons_succ]
   clear hx9
   refine wpAnyH_ready (rs := [2, 5, 6]) (by kernel_rfl) (by simp) ?_
   refine AllReadyH.cons rfl (fun K hK => ?_) (AllReadyH.cons rfl (fun K hK => ?_) (AllReadyH.cons rfl (fun K hK => ?_) (AllReadyH.nil)))
   ·skip
    have hmm := run_mkI y9 m (by omega)
    simp only [List.getElem_toArray, List.getElem_cons_zero, List.getElem_cons_succ]
    go_simp
    clear hmm
    obtain ⟨b2, hw2⟩ : ∃ b, y9.heap.size = b := ⟨_, rfl⟩
    obtain ⟨y2, hy2⟩ : ∃ y, y9.alloc (.cells (iV (List.replicate m 0)).toArray 3) = y := ⟨_, rfl⟩
    rw [hy2, hw2]
    have hx2 : Below y9.heap.size y9 y2 := by rw [← hy2]; exact balloc (Below.refl _ _) _
    have HN2 : Hid (y2.heap[b2]? = some (.cells (iV (List.replicate m 0)).toArray 3 (0, 0))) := Lib.hid (by rw [← hy2, ← hw2]; exact heap_alloc_new _ _)
    have HG2 : Hid (w3.heap.size ≤ b2) := Lib.hid (by have := HBE.out.size; omega)
    have HNE2_9 : Hid (b2 ≠ b9) := Lib.hid (by have := (Array.getElem?_eq_some_iff.1 HN9.out).1; omega)
    clear hy2 hw2
    have HBE := Lib.hid (bthen HBE.out hx2)
    have hSp := HSS.out _ HBE.out
    clear hHeld
    refine hK.out _ _ hSp (fun hHeld => ?_)
    clear hSp hK K
    try simp only [Act.put, List.setIfInBounds_toArray, List.set_cons_zero, List.set_cons_succ]
    have HN9 := Lib.hid ((hx2.block b9 (Array.getElem?_eq_some_iff.1 HN9.out).1).trans HN9.out)
    clear hx2
    refine wpAnyH_ready (rs := [5, 6]) (by kernel_rfl) (by simp) ?_
    refine AllReadyH.cons rfl (fun K hK => ?_) (AllReadyH.cons rfl (fun K hK => ?_) (AllReadyH.nil))
    ·skip
     have hmm := run_mkI y2 k (by omega)
     simp only [List.getElem_toArray, List.getElem_cons_zero, List.getElem_cons_succ]
     go_simp
     clear hmm
     obtain ⟨b5, hw5⟩ : ∃ b, y2.heap.size = b := ⟨_, rfl⟩
     obtain ⟨y5, hy5⟩ : ∃ y, y2.alloc (.cells (iV (List.replicate k 0)).toArray 3) = y := ⟨_, rfl⟩
     rw [hy5, hw5]
     have hx5 : Below y2.heap.size y2 y5 := by rw [← hy5]; exact balloc (Below.refl _ _) _
     have HN5 : Hid (y5.heap[b5]? = some (.cells (iV (List.replicate k 0)).toArray 3 (0, 0))) := Lib.hid (by rw [← hy5, ← hw5]; exact heap_alloc_new _ _)
     have HG5 : Hid (w3.heap.size ≤ b5) := Lib.hid (by have := HBE.out.size; omega)
     have HNE5_9 : Hid (b5 ≠ b9) := Lib.hid (by have := (Array.getElem?_eq_some_iff.1 HN9.out).1; omega)
     have HNE2_5 : Hid (b2 ≠ b5) := Lib.hid (by have := (Array.getElem?_eq_some_iff.1 HN2.out).1; omega)
     clear hy5 hw5
     have HBE := Lib.hid (bthen HBE.out hx5)
     have hSp := HSS.out _ HBE.out
     clear hHeld
     refine hK.out _ _ hSp (fun hHeld => ?_)
     clear hSp hK K
     try simp only [Act.put, List.setIfInBounds_toArray, List.set_cons_zero, List.set_cons_succ]
     have HN9 := Lib.hid ((hx5.block b9 (Array.getElem?_eq_some_iff.1 HN9.out).1).trans HN9.out)
     have HN2 := Lib.hid ((hx5.block b2 (Array.getElem?_eq_some_iff.1 HN2.out).1).trans HN2.out)
     clear hx5
     refine wpAnyH_ready (rs := [6]) (by kernel_rfl) (by simp) ?_
     refine AllReadyH.cons rfl (fun K hK => ?_) (AllReadyH.nil)
     have hmm := @run_makeMap Tryz.prog
     simp only [List.getElem_toArray, List.getElem_cons_zero, List.getElem_cons_succ]
     go_simp
     clear hmm
     obtain ⟨b6, hw6⟩ : ∃ b, y5.heap.size = b := ⟨_, rfl⟩
     obtain ⟨y6, hy6⟩ : ∃ y, y5.alloc (.map #[] 0) = y := ⟨_, rfl⟩
     rw [hy6, hw6]
     have hx6 : Below y5.heap.size y5 y6 := by rw [← hy6]; exact balloc (Below.refl _ _) _
     have HN6 : Hid (y6.heap[b6]? = some (.map #[] 0)) := Lib.hid (by rw [← hy6, ← hw6]; exact heap_alloc_new _ _)
     have HG6 : Hid (w3.heap.size ≤ b6) := Lib.hid (by have := HBE.out.size; omega)
     have HNE6_9 : Hid (b6 ≠ b9) := Lib.hid (by have := (Array.getElem?_eq_some_iff.1 HN9.out).1; omega)
     have HNE2_6 : Hid (b2 ≠ b6) := Lib.hid (by have := (Array.getElem?_eq_some_iff.1 HN2.out).1; omega)
     have HNE5_6 : Hid (b5 ≠ b6) := Lib.hid (by have := (Array.getElem?_eq_some_iff.1 HN5.out).1; omega)
     clear hy6 hw6
     have HBE := Lib.hid (bthen HBE.out hx6)
     have hSp := HSS.out _ HBE.out
     clear hHeld
     refine hK.out _ _ hSp (fun hHeld => ?_)
     clear hSp hK K
     try simp only [Act.put, List.setIfInBounds_toArray, List.set_cons_zero, List.set_cons_succ]
     have HN9 := Lib.hid ((hx6.block b9 (Array.getElem?_eq_some_iff.1 HN9.out).1).trans HN9.out)
     have HN2 := Lib.hid ((hx6.block b2 (Array.getElem?_eq_some_iff.1 HN2.out).1).trans HN2.out)
     have HN5 := Lib.hid ((hx6.block b5 (Array.getElem?_eq_some_iff.1 HN5.out).1).trans HN5.out)
     clear hx6
     refine wpAnyH_take (i := 7) (v := .agg #[.slice (some ⟨b2, 0, none⟩) m m, .slice (some ⟨b5, 0, none⟩) k k, .map (some b6), .slice none 0 0]) rfl (by kernel_rfl) (by kernel_rfl) (by kernel_rfl) (fun _ _ _ h => h) (Or.inl ⟨by rfl, ?_⟩) (by assumption) ?_
     ·(intro w hSw; simp only [List.getElem_toArray, List.getElem_cons_zero, List.getElem_cons_succ]; (have hbu := nm_built b2 m b5 k b6; go_simp; first | done | with_reducible rfl))
     simp only [List.getElem_toArray, List.getElem_cons_zero, List.getElem_cons_succ, Act.put, List.setIfInBounds_toArray, List.set_cons_zero, List.set_cons_succ]
     refine wpAnyH_ready (rs := [8]) (by kernel_rfl) (by simp) ?_
     refine AllReadyH.cons rfl (fun K hK => ?_) (AllReadyH.nil)
     simp only [List.getElem_toArray, List.getElem_cons_zero, List.getElem_cons_succ]
     go_simp
     obtain ⟨b8, hw8⟩ : ∃ b, y6.heap.size = b := ⟨_, rfl⟩
     obtain ⟨y8, hy8⟩ : ∃ y, y6.alloc (.cells #[.slice (some ⟨b2, 0, none⟩) m m, .slice (some ⟨b5, 0, none⟩) k k, .map (some b6), .slice none 0 0] 327) = y := ⟨_, rfl⟩
     rw [hy8, hw8]
     have hx8 : Below y6.heap.size y6 y8 := by rw [← hy8]; exact balloc (Below.refl _ _) _
     have HN8 : Hid (y8.heap[b8]? = some (.cells #[.slice (some ⟨b2, 0, none⟩) m m, .slice (some ⟨b5, 0, none⟩) k k, .map (some b6), .slice none 0 0] 327 (0, 0))) := Lib.hid (by rw [← hy8, ← hw8]; exact heap_alloc_new _ _)
     have HG8 : Hid (w3.heap.size ≤ b8) := Lib.hid (by have := HBE.out.size; omega)
     have HNE8_9 : Hid (b8 ≠ b9) := Lib.hid (by have := (Array.getElem?_eq_some_iff.1 HN9.out).1; omega)
     have HNE2_8 : Hid (b2 ≠ b8) := Lib.hid (by have := (Array.getElem?_eq_some_iff.1 HN2.out).1; omega)
     have HNE5_8 : Hid (b5 ≠ b8) := Lib.hid (by have := (Array.getElem?_eq_some_iff.1 HN5.out).1; omega)
     have HNE6_8 : Hid (b6 ≠ b8) := Lib.hid (by have := (Array.getElem?_eq_some_iff.1 HN6.out).1; omega)
     clear hy8 hw8
     have HBE := Lib.hid (bthen HBE.out hx8)
     have hSp := HSS.out _ HBE.out
     clear hHeld
     refine hK.out _ _ hSp (fun hHeld => ?_)
     clear hSp hK K
     try simp only [Act.put, List.setIfInBounds_toArray, List.set_cons_zero, List.set_cons_succ]
     have HN9 := Lib.hid ((hx8.block b9 (Array.getElem?_eq_some_iff.1 HN9.out).1).trans HN9.out)
     have HN2 := Lib.hid ((hx8.block b2 (Array.getElem?_eq_some_iff.1 HN2.out).1).trans HN2.out)
     have HN5 := Lib.hid ((hx8.block b5 (Array.getElem?_eq_some_iff.1 HN5.out).1).trans HN5.out)
     have HN6 := Lib.hid ((hx8.block b6 (Array.getElem?_eq_some_iff.1 HN6.out).1).trans HN6.out)
     clear hx8
     refine wpAnyH_ready (rs := [10]) (by kernel_rfl) (by simp) ?_
     refine AllReadyH.cons rfl (fun K hK => ?_) (AllReadyH.nil)
     have hc10_0 := cellOf HN9.out 0 rfl
     have hf10_0 := frozenOf HN9.out 0
     simp only [List.getElem_toArray, List.getElem_cons_zero, List.getElem_cons_succ]
     go_simp
     obtain ⟨y10, hy10⟩ : ∃ y, (y8.setCell ⟨b9, 0, none⟩ (.pointer (some ⟨b8, 0, none⟩))) = y := ⟨_, rfl⟩
     rw [hy10]
     have hm10 : Mods [b9] y8 y10 := by rw [← hy10]; exact (Mods.refl [b9] y8).setCell (p := ⟨b9, 0, none⟩) (by simp) _
     have hv10 := setOf (HN9.out) 0 (.pointer (some ⟨b8, 0, none⟩))
     rw [hy10] at hv10
     clear hy10 hc10_0 hf10_0
     have HBE : Hid (Below w3.heap.size w3 y10) := Lib.hid (HBE.out.trans (hm10.below (fun k hk => by have := HG9.out; have e := List.mem_singleton.1 hk; omega) HBE.out.size))
     have hSp := HSS.out _ HBE.out
     clear hHeld
     refine hK.out _ _ hSp (fun hHeld => ?_)
     clear hSp hK K
     try simp only [Act.put, List.setIfInBounds_toArray, List.set_cons_zero, List.set_cons_succ]
     have HN2 := Lib.hid ((hm10.block b2 (Array.getElem?_eq_some_iff.1 HN2.out).1 (fun h => by have e := List.mem_singleton.1 h; have := HNE2_9.out; omega)).trans HN2.out)
     have HN5 := Lib.hid ((hm10.block b5 (Array.getElem?_eq_some_iff.1 HN5.out).1 (fun h => by have e := List.mem_singleton.1 h; have := HNE5_9.out; omega)).trans HN5.out)
     have HN6 := Lib.hid ((hm10.block b6 (Array.getElem?_eq_some_iff.1 HN6.out).1 (fun h => by have e := List.mem_singleton.1 h; have := HNE6_9.out; omega)).trans HN6.out)
     have HN8 := Lib.hid ((hm10.block b8 (Array.getElem?_eq_some_iff.1 HN8.out).1 (fun h => by have e := List.mem_singleton.1 h; have := HNE8_9.out; omega)).trans HN8.out)
     simp only [List.setIfInBounds_toArray, List.set_cons_zero, List.set_cons_succ] at hv10
     have HN9 := Lib.hid hv10
     clear hv10 hm10
     refine wpAnyH_done (by kernel_rfl) ?_ _
     have HEND := Lib.hid hHeld.2
     have HSE := Lib.hid hHeld.1
     clear hHeld
     clear HSE HSS
     go_wp2_with fail
     go_meet
     exact ⟨_, b9, b8, b2, b5, b6, rfl, rfl, HEND.out, HG2.out, HN9.out, ⟨HN8.out, HN2.out, HN5.out, HNE2_5.out⟩⟩
    ·skip
     have hmm := @run_makeMap Tryz.prog
     simp only [List.getElem_toArray, List.getElem_cons_zero, List.getElem_cons_succ]
     go_simp
     clear hmm
     obtain ⟨b6, hw6⟩ : ∃ b, y2.heap.size = b := ⟨_, rfl⟩
     obtain ⟨y6, hy6⟩ : ∃ y, y2.alloc (.map #[] 0) = y := ⟨_, rfl⟩
     rw [hy6, hw6]
     have hx6 : Below y2.heap.size y2 y6 := by rw [← hy6]; exact balloc (Below.refl _ _) _
     have HN6 : Hid (y6.heap[b6]? = some (.map #[] 0)) := Lib.hid (by rw [← hy6, ← hw6]; exact heap_alloc_new _ _)
     have HG6 : Hid (w3.heap.size ≤ b6) := Lib.hid (by have := HBE.out.size; omega)
     have HNE6_9 : Hid (b6 ≠ b9) := Lib.hid (by have := (Array.getElem?_eq_some_iff.1 HN9.out).1; omega)
     have HNE2_6 : Hid (b2 ≠ b6) := Lib.hid (by have := (Array.getElem?_eq_some_iff.1 HN2.out).1; omega)
     clear hy6 hw6
     have HBE := Lib.hid (bthen HBE.out hx6)
     have hSp := HSS.out _ HBE.out
     clear hHeld
     refine hK.out _ _ hSp (fun hHeld => ?_)
     clear hSp hK K
     try simp only [Act.put, List.setIfInBounds_toArray, List.set_cons_zero, List.set_cons_succ]
     have HN9 := Lib.hid ((hx6.block b9 (Array.getElem?_eq_some_iff.1 HN9.out).1).trans HN9.out)
     have HN2 := Lib.hid ((hx6.block b2 (Array.getElem?_eq_some_iff.1 HN2.out).1).trans HN2.out)
     clear hx6
     refine wpAnyH_ready (rs := [5]) (by kernel_rfl) (by simp) ?_
     refine AllReadyH.cons rfl (fun K hK => ?_) (AllReadyH.nil)
     have hmm := run_mkI y6 k (by omega)
     simp only [List.getElem_toArray, List.getElem_cons_zero, List.getElem_cons_succ]
     go_simp
     clear hmm
     obtain ⟨b5, hw5⟩ : ∃ b, y6.heap.size = b := ⟨_, rfl⟩
     obtain ⟨y5, hy5⟩ : ∃ y, y6.alloc (.cells (iV (List.replicate k 0)).toArray 3) = y := ⟨_, rfl⟩
     rw [hy5, hw5]
     have hx5 : Below y6.heap.size y6 y5 := by rw [← hy5]; exact balloc (Below.refl _ _) _
     have HN5 : Hid (y5.heap[b5]? = some (.cells (iV (List.replicate k 0)).toArray 3 (0, 0))) := Lib.hid (by rw [← hy5, ← hw5]; exact heap_alloc_new _ _)
     have HG5 : Hid (w3.heap.size ≤ b5) := Lib.hid (by have := HBE.out.size; omega)
     have HNE5_9 : Hid (b5 ≠ b9) := Lib.hid (by have := (Array.getElem?_eq_some_iff.1 HN9.out).1; omega)
     have HNE2_5 : Hid (b2 ≠ b5) := Lib.hid (by have := (Array.getElem?_eq_some_iff.1 HN2.out).1; omega)
     have HNE5_6 : Hid (b5 ≠ b6) := Lib.hid (by have := (Array.getElem?_eq_some_iff.1 HN6.out).1; omega)
     clear hy5 hw5
     have HBE := Lib.hid (bthen HBE.out hx5)
     have hSp := HSS.out _ HBE.out
     clear hHeld
     refine hK.out _ _ hSp (fun hHeld => ?_)
     clear hSp hK K
     try simp only [Act.put, List.setIfInBounds_toArray, List.set_cons_zero, List.set_cons_succ]
     have HN9 := Lib.hid ((hx5.block b9 (Array.getElem?_eq_some_iff.1 HN9.out).1).trans HN9.out)
     have HN2 := Lib.hid ((hx5.block b2 (Array.getElem?_eq_some_iff.1 HN2.out).1).trans HN2.out)
     have HN6 := Lib.hid ((hx5.block b6 (Array.getElem?_eq_some_iff.1 HN6.out).1).trans HN6.out)
     clear hx5
     refine wpAnyH_take (i := 7) (v := .agg #[.slice (some ⟨b2, 0, none⟩) m m, .slice (some ⟨b5, 0, none⟩) k k, .map (some b6), .slice none 0 0]) rfl (by kernel_rfl) (by kernel_rfl) (by kernel_rfl) (fun _ _ _ h => h) (Or.inl ⟨by rfl, ?_⟩) (by assumption) ?_
     ·(intro w hSw; simp only [List.getElem_toArray, List.getElem_cons_zero, List.getElem_cons_succ]; (have hbu := nm_built b2 m b5 k b6; go_simp; first | done | with_reducible rfl))
     simp only [List.getElem_toArray, List.getElem_cons_zero, List.getElem_cons_succ, Act.put, List.setIfInBounds_toArray, List.set_cons_zero, List.set_cons_succ]
     refine wpAnyH_ready (rs := [8]) (by kernel_rfl) (by simp) ?_
     refine AllReadyH.cons rfl (fun K hK => ?_) (AllReadyH.nil)
     simp only [List.getElem_toArray, List.getElem_cons_zero, List.getElem_cons_succ]
     go_simp
     obtain ⟨b8, hw8⟩ : ∃ b, y5.heap.size = b := ⟨_, rfl⟩
     obtain ⟨y8, hy8⟩ : ∃ y, y5.alloc (.cells #[.slice (some ⟨b2, 0, none⟩) m m, .slice (some ⟨b5, 0, none⟩) k k, .map (some b6), .slice none 0 0] 327) = y := ⟨_, rfl⟩
     rw [hy8, hw8]
     have hx8 : Below y5.heap.size y5 y8 := by rw [← hy8]; exact balloc (Below.refl _ _) _
     have HN8 : Hid (y8.heap[b8]? = some (.cells #[.slice (some ⟨b2, 0, none⟩) m m, .slice (some ⟨b5, 0, none⟩) k k, .map (some b6), .slice none 0 0] 327 (0, 0))) := Lib.hid (by rw [← hy8, ← hw8]; exact heap_alloc_new _ _)
     have HG8 : Hid (w3.heap.size ≤ b8) := Lib.hid (by have := HBE.out.size; omega)
     have HNE8_9 : Hid (b8 ≠ b9) := Lib.hid (by have := (Array.getElem?_eq_some_iff.1 HN9.out).1; omega)
     have HNE2_8 : Hid (b2 ≠ b8) := Lib.hid (by have := (Array.getElem?_eq_some_iff.1 HN2.out).1; omega)
     have HNE6_8 : Hid (b6 ≠ b8) := Lib.hid (by have := (Array.getElem?_eq_some_iff.1 HN6.out).1; omega)
     have HNE5_8 : Hid (b5 ≠ b8) := Lib.hid (by have := (Array.getElem?_eq_some_iff.1 HN5.out).1; omega)
     clear hy8 hw8
     have HBE := Lib.hid (bthen HBE.out hx8)
     have hSp := HSS.out _ HBE.out
     clear hHeld
     refine hK.out _ _ hSp (fun hHeld => ?_)
     clear hSp hK K
     try simp only [Act.put, List.setIfInBounds_toArray, List.set_cons_zero, List.set_cons_succ]
     have HN9 := Lib.hid ((hx8.block b9 (Array.getElem?_eq_some_iff.1 HN9.out).1).trans HN9.out)
     have HN2 := Lib.hid ((hx8.block b2 (Array.getElem?_eq_some_iff.1 HN2.out).1).trans HN2.out)
     have HN6 := Lib.hid ((hx8.block b6 (Array.getElem?_eq_some_iff.1 HN6.out).1).trans HN6.out)
     have HN5 := Lib.hid ((hx8.block b5 (Array.getElem?_eq_some_iff.1 HN5.out).1).trans HN5.out)
     clear hx8
     refine wpAnyH_ready (rs := [10]) (by kernel_rfl) (by simp) ?_
     refine AllReadyH.cons rfl (fun K hK => ?_) (AllReadyH.nil)
     have hc10_0 := cellOf HN9.out 0 rfl
     have hf10_0 := frozenOf HN9.out 0
     simp only [List.getElem_toArray, List.getElem_cons_zero, List.getElem_cons_succ]
     go_simp
     obtain ⟨y10, hy10⟩ : ∃ y, (y8.setCell ⟨b9, 0, none⟩ (.pointer (some ⟨b8, 0, none⟩))) = y := ⟨_, rfl⟩
     rw [hy10]
     have hm10 : Mods [b9] y8 y10 := by rw [← hy10]; exact (Mods.refl [b9] y8).setCell (p := ⟨b9, 0, none⟩) (by simp) _
     have hv10 := setOf (HN9.out) 0 (.pointer (some ⟨b8, 0, none⟩))
     rw [hy10] at hv10
     clear hy10 hc10_0 hf10_0
     have HBE : Hid (Below w3.heap.size w3 y10) := Lib.hid (HBE.out.trans (hm10.below (fun k hk => by have := HG9.out; have e := List.mem_singleton.1 hk; omega) HBE.out.size))
     have hSp := HSS.out _ HBE.out
     clear hHeld
     refine hK.out _ _ hSp (fun hHeld => ?_)
     clear hSp hK K
     try simp only [Act.put, List.setIfInBounds_toArray, List.set_cons_zero, List.set_cons_succ]
     have HN2 := Lib.hid ((hm10.block b2 (Array.getElem?_eq_some_iff.1 HN2.out).1 (fun h => by have e := List.mem_singleton.1 h; have := HNE2_9.out; omega)).trans HN2.out)
     have HN6 := Lib.hid ((hm10.block b6 (Array.getElem?_eq_some_iff.1 HN6.out).1 (fun h => by have e := List.mem_singleton.1 h; have := HNE6_9.out; omega)).trans HN6.out)
     have HN5 := Lib.hid ((hm10.block b5 (Array.getElem?_eq_some_iff.1 HN5.out).1 (fun h => by have e := List.mem_singleton.1 h; have := HNE5_9.out; omega)).trans HN5.out)
     have HN8 := Lib.hid ((hm10.block b8 (Array.getElem?_eq_some_iff.1 HN8.out).1 (fun h => by have e := List.mem_singleton.1 h; have := HNE8_9.out; omega)).trans HN8.out)
     simp only [List.setIfInBounds_toArray, List.set_cons_zero, List.set_cons_succ] at hv10
     have HN9 := Lib.hid hv10
     clear hv10 hm10
     refine wpAnyH_done (by kernel_rfl) ?_ _
     have HEND := Lib.hid hHeld.2
     have HSE := Lib.hid hHeld.1
     clear hHeld
     clear HSE HSS
     go_wp2_with fail
     go_meet
     exact ⟨_, b9, b8, b2, b5, b6, rfl, rfl, HEND.out, HG2.out, HN9.out, ⟨HN8.out, HN2.out, HN5.out, HNE2_5.out⟩⟩
   ·skip
    have hmm := run_mkI y9 k (by omega)
    simp only [List.getElem_toArray, List.getElem_cons_zero, List.getElem_cons_succ]
    go_simp
    clear hmm
    obtain ⟨b5, hw5⟩ : ∃ b, y9.heap.size = b := ⟨_, rfl⟩
    obtain ⟨y5, hy5⟩ : ∃ y, y9.alloc (.cells (iV (List.replicate k 0)).toArray 3) = y := ⟨_, rfl⟩
    rw [hy5, hw5]
    have hx5 : Below y9.heap.size y9 y5 := by rw [← hy5]; exact balloc (Below.refl _ _) _
    have HN5 : Hid (y5.heap[b5]? = some (.cells (iV (List.replicate k 0)).toArray 3 (0, 0))) := Lib.hid (by rw [← hy5, ← hw5]; exact heap_alloc_new _ _)
    have HG5 : Hid (w3.heap.size ≤ b5) := Lib.hid (by have := HBE.out.size; omega)
    have HNE5_9 : Hid (b5 ≠ b9) := Lib.hid (by have := (Array.getElem?_eq_some_iff.1 HN9.out).1; omega)
    clear hy5 hw5
    have HBE := Lib.hid (bthen HBE.out hx5)
    have hSp := HSS.out _ HBE.out
    clear hHeld
    refine hK.out _ _ hSp (fun hHeld => ?_)
    clear hSp hK K
    try simp only [Act.put, List.setIfInBounds_toArray, List.set_cons_zero, List.set_cons_succ]
    have HN9 := Lib.hid ((hx5.block b9 (Array.getElem?_eq_some_iff.1 HN9.out).1).trans HN9.out)
    clear hx5
    refine wpAnyH_ready (rs := [2, 6]) (by kernel_rfl) (by simp) ?_
    refine AllReadyH.cons rfl (fun K hK => ?_) (AllReadyH.cons rfl (fun K hK => ?_) (AllReadyH.nil))
    ·skip
     have hmm := run_mkI y5 m (by omega)
     simp only [List.getElem_toArray, List.getElem_cons_zero, List.getElem_cons_succ]
     go_simp
     clear hmm
     obtain ⟨b2, hw2⟩ : ∃ b, y5.heap.size = b := ⟨_, rfl⟩
     obtain ⟨y2, hy2⟩ : ∃ y, y5.alloc (.cells (iV (List.replicate m 0)).toArray 3) = y := ⟨_, rfl⟩
     rw [hy2, hw2]
     have hx2 : Below y5.heap.size y5 y2 := by rw [← hy2]; exact balloc (Below.refl _ _) _
     have HN2 : Hid (y2.heap[b2]? = some (.cells (iV (List.replicate m 0)).toArray 3 (0, 0))) := Lib.hid (by rw [← hy2, ← hw2]; exact heap_alloc_new _ _)
     have HG2 : Hid (w3.heap.size ≤ b2) := Lib.hid (by have := HBE.out.size; omega)
     have HNE2_9 : Hid (b2 ≠ b9) := Lib.hid (by have := (Array.getElem?_eq_some_iff.1 HN9.out).1; omega)
     have HNE2_5 : Hid (b2 ≠ b5) := Lib.hid (by have := (Array.getElem?_eq_some_iff.1 HN5.out).1; omega)
     clear hy2 hw2
     have HBE := Lib.hid (bthen HBE.out hx2)
     have hSp := HSS.out _ HBE.out
     clear hHeld
     refine hK.out _ _ hSp (fun hHeld => ?_)
     clear hSp hK K
     try simp only [Act.put, List.setIfInBounds_toArray, List.set_cons_zero, List.set_cons_succ]
     have HN9 := Lib.hid ((hx2.block b9 (Array.getElem?_eq_some_iff.1 HN9.out).1).trans HN9.out)
     have HN5 := Lib.hid ((hx2.block b5 (Array.getElem?_eq_some_iff.1 HN5.out).1).trans HN5.out)
     clear hx2
     refine wpAnyH_ready (rs := [6]) (by kernel_rfl) (by simp) ?_
     refine AllReadyH.cons rfl (fun K hK => ?_) (AllReadyH.nil)
     have hmm := @run_makeMap Tryz.prog
     simp only [List.getElem_toArray, List.getElem_cons_zero, List.getElem_cons_succ]
     go_simp
     clear hmm
     obtain ⟨b6, hw6⟩ : ∃ b, y2.heap.size = b := ⟨_, rfl⟩
     obtain ⟨y6, hy6⟩ : ∃ y, y2.alloc (.map #[] 0) = y := ⟨_, rfl⟩
     rw [hy6, hw6]
     have hx6 : Below y2.heap.size y2 y6 := by rw [← hy6]; exact balloc (Below.refl _ _) _
     have HN6 : Hid (y6.heap[b6]? = some (.map #[] 0)) := Lib.hid (by rw [← hy6, ← hw6]; exact heap_alloc_new _ _)
     have HG6 : Hid (w3.heap.size ≤ b6) := Lib.hid (by have := HBE.out.size; omega)
     have HNE6_9 : Hid (b6 ≠ b9) := Lib.hid (by have := (Array.getElem?_eq_some_iff.1 HN9.out).1; omega)
     have HNE5_6 : Hid (b5 ≠ b6) := Lib.hid (by have := (Array.getElem?_eq_some_iff.1 HN5.out).1; omega)
     have HNE2_6 : Hid (b2 ≠ b6) := Lib.hid (by have := (Array.getElem?_eq_some_iff.1 HN2.out).1; omega)
     clear hy6 hw6
     have HBE := Lib.hid (bthen HBE.out hx6)
     have hSp := HSS.out _ HBE.out
     clear hHeld
     refine hK.out _ _ hSp (fun hHeld => ?_)
     clear hSp hK K
     try simp only [Act.put, List.setIfInBounds_toArray, List.set_cons_zero, List.set_cons_succ]
     have HN9 := Lib.hid ((hx6.block b9 (Array.getElem?_eq_some_iff.1 HN9.out).1).trans HN9.out)
     have HN5 := Lib.hid ((hx6.block b5 (Array.getElem?_eq_some_iff.1 HN5.out).1).trans HN5.out)
     have HN2 := Lib.hid ((hx6.block b2 (Array.getElem?_eq_some_iff.1 HN2.out).1).trans HN2.out)
     clear hx6
     refine wpAnyH_take (i := 7) (v := .agg #[.slice (some ⟨b2, 0, none⟩) m m, .slice (some ⟨b5, 0, none⟩) k k, .map (some b6), .slice none 0 0]) rfl (by kernel_rfl) (by kernel_rfl) (by kernel_rfl) (fun _ _ _ h => h) (Or.inl ⟨by rfl, ?_⟩) (by assumption) ?_
     ·(intro w hSw; simp only [List.getElem_toArray, List.getElem_cons_zero, List.getElem_cons_succ]; (have hbu := nm_built b2 m b5 k b6; go_simp; first | done | with_reducible rfl))
     simp only [List.getElem_toArray, List.getElem_cons_zero, List.getElem_cons_succ, Act.put, List.setIfInBounds_toArray, List.set_cons_zero, List.set_cons_succ]
     refine wpAnyH_ready (rs := [8]) (by kernel_rfl) (by simp) ?_
     refine AllReadyH.cons rfl (fun K hK => ?_) (AllReadyH.nil)
     simp only [List.getElem_toArray, List.getElem_cons_zero, List.getElem_cons_succ]
     go_simp
     obtain ⟨b8, hw8⟩ : ∃ b, y6.heap.size = b := ⟨_, rfl⟩
     obtain ⟨y8, hy8⟩ : ∃ y, y6.alloc (.cells #[.slice (some ⟨b2, 0, none⟩) m m, .slice (some ⟨b5, 0, none⟩) k k, .map (some b6), .slice none 0 0] 327) = y := ⟨_, rfl⟩
     rw [hy8, hw8]
     have hx8 : Below y6.heap.size y6 y8 := by rw [← hy8]; exact balloc (Below.refl _ _) _
     have HN8 : Hid (y8.heap[b8]? = some (.cells #[.slice (some ⟨b2, 0, none⟩) m m, .slice (some ⟨b5, 0, none⟩) k k, .map (some b6), .slice none 0 0] 327 (0, 0))) := Lib.hid (by rw [← hy8, ← hw8]; exact heap_alloc_new _ _)
     have HG8 : Hid (w3.heap.size ≤ b8) := Lib.hid (by have := HBE.out.size; omega)
     have HNE8_9 : Hid (b8 ≠ b9) := Lib.hid (by have := (Array.getElem?_eq_some_iff.1 HN9.out).1; omega)
     have HNE5_8 : Hid (b5 ≠ b8) := Lib.hid (by have := (Array.getElem?_eq_some_iff.1 HN5.out).1; omega)
     have HNE2_8 : Hid (b2 ≠ b8) := Lib.hid (by have := (Array.getElem?_eq_some_iff.1 HN2.out).1; omega)
     have HNE6_8 : Hid (b6 ≠ b8) := Lib.hid (by have := (Array.getElem?_eq_some_iff.1 HN6.out).1; omega)
     clear hy8 hw8
     have HBE := Lib.hid (bthen HBE.out hx8)
     have hSp := HSS.out _ HBE.out
     clear hHeld
     refine hK.out _ _ hSp (fun hHeld => ?_)
     clear hSp hK K
     try simp only [Act.put, List.setIfInBounds_toArray, List.set_cons_zero, List.set_cons_succ]
     have HN9 := Lib.hid ((hx8.block b9 (Array.getElem?_eq_some_iff.1 HN9.out).1).trans HN9.out)
     have HN5 := Lib.hid ((hx8.block b5 (Array.getElem?_eq_some_iff.1 HN5.out).1).trans HN5.out)
     have HN2 := Lib.hid ((hx8.block b2 (Array.getElem?_eq_some_iff.1 HN2.out).1).trans HN2.out)
     have HN6 := Lib.hid ((hx8.block b6 (Array.getElem?_eq_some_iff.1 HN6.out).1).trans HN6.out)
     clear hx8
     refine wpAnyH_ready (rs := [10]) (by kernel_rfl) (by simp) ?_
     refine AllReadyH.cons rfl (fun K hK => ?_) (AllReadyH.nil)
     have hc10_0 := cellOf HN9.out 0 rfl
     have hf10_0 := frozenOf HN9.out 0
     simp only [List.getElem_toArray, List.getElem_cons_zero, List.getElem_cons_succ]
     go_simp
     obtain ⟨y10, hy10⟩ : ∃ y, (y8.setCell ⟨b9, 0, none⟩ (.pointer (some ⟨b8, 0, none⟩))) = y := ⟨_, rfl⟩
     rw [hy10]
     have hm10 : Mods [b9] y8 y10 := by rw [← hy10]; exact (Mods.refl [b9] y8).setCell (p := ⟨b9, 0, none⟩) (by simp) _
     have hv10 := setOf (HN9.out) 0 (.pointer (some ⟨b8, 0, none⟩))
     rw [hy10] at hv10
     clear hy10 hc10_0 hf10_0
     have HBE : Hid (Below w3.heap.size w3 y10) := Lib.hid (HBE.out.trans (hm10.below (fun k hk => by have := HG9.out; have e := List.mem_singleton.1 hk; omega) HBE.out.size))
     have hSp := HSS.out _ HBE.out
     clear hHeld
     refine hK.out _ _ hSp (fun hHeld => ?_)
     clear hSp hK K
     try simp only [Act.put, List.setIfInBounds_toArray, List.set_cons_zero, List.set_cons_succ]
     have HN5 := Lib.hid ((hm10.block b5 (Array.getElem?_eq_some_iff.1 HN5.out).1 (fun h => by have e := List.mem_singleton.1 h; have := HNE5_9.out; omega)).trans HN5.out)
     have HN2 := Lib.hid ((hm10.block b2 (Array.getElem?_eq_some_iff.1 HN2.out).1 (fun h => by have e := List.mem_singleton.1 h; have := HNE2_9.out; omega)).trans HN2.out)
     have HN6 := Lib.hid ((hm10.block b6 (Array.getElem?_eq_some_iff.1 HN6.out).1 (fun h => by have e := List.mem_singleton.1 h; have := HNE6_9.out; omega)).trans HN6.out)
     have HN8 := Lib.hid ((hm10.block b8 (Array.getElem?_eq_some_iff.1 HN8.out).1 (fun h => by have e := List.mem_singleton.1 h; have := HNE8_9.out; omega)).trans HN8.out)
     simp only [List.setIfInBounds_toArray, List.set_cons_zero, List.set_cons_succ] at hv10
     have HN9 := Lib.hid hv10
     clear hv10 hm10
     refine wpAnyH_done (by kernel_rfl) ?_ _
     have HEND := Lib.hid hHeld.2
     have HSE := Lib.hid hHeld.1
     clear hHeld
     clear HSE HSS
     go_wp2_with fail
     go_meet
     exact ⟨_, b9, b8, b2, b5, b6, rfl, rfl, HEND.out, HG2.out, HN9.out, ⟨HN8.out, HN2.out, HN5.out, HNE2_5.out⟩⟩
    ·skip
     have hmm := @run_makeMap Tryz.prog
     simp only [List.getElem_toArray, List.getElem_cons_zero, List.getElem_cons_succ]
     go_simp
     clear hmm
     obtain ⟨b6, hw6⟩ : ∃ b, y5.heap.size = b := ⟨_, rfl⟩
     obtain ⟨y6, hy6⟩ : ∃ y, y5.alloc (.map #[] 0) = y := ⟨_, rfl⟩
     rw [hy6, hw6]
     have hx6 : Below y5.heap.size y5 y6 := by rw [← hy6]; exact balloc (Below.refl _ _) _
     have HN6 : Hid (y6.heap[b6]? = some (.map #[] 0)) := Lib.hid (by rw [← hy6, ← hw6]; exact heap_alloc_new _ _)
     have HG6 : Hid (w3.heap.size ≤ b6) := Lib.hid (by have := HBE.out.size; omega)
     have HNE6_9 : Hid (b6 ≠ b9) := Lib.hid (by have := (Array.getElem?_eq_some_iff.1 HN9.out).1; omega)
     have HNE5_6 : Hid (b5 ≠ b6) := Lib.hid (by have := (Array.getElem?_eq_some_iff.1 HN5.out).1; omega)
     clear hy6 hw6
     have HBE := Lib.hid (bthen HBE.out hx6)
     have hSp := HSS.out _ HBE.out
     clear hHeld
     refine hK.out _ _ hSp (fun hHeld => ?_)
     clear hSp hK K
     try simp only [Act.put, List.setIfInBounds_toArray, List.set_cons_zero, List.set_cons_succ]
     have HN9 := Lib.hid ((hx6.block b9 (Array.getElem?_eq_some_iff.1 HN9.out).1).trans HN9.out)
     have HN5 := Lib.hid ((hx6.block b5 (Array.getElem?_eq_some_iff.1 HN5.out).1).trans HN5.out)
     clear hx6
     refine wpAnyH_ready (rs := [2]) (by kernel_rfl) (by simp) ?_
     refine AllReadyH.cons rfl (fun K hK => ?_) (AllReadyH.nil)
     have hmm := run_mkI y6 m (by omega)
     simp only [List.getElem_toArray, List.getElem_cons_zero, List.getElem_cons_succ]
     go_simp
     clear hmm
     obtain ⟨b2, hw2⟩ : ∃ b, y6.heap.size = b := ⟨_, rfl⟩
     obtain ⟨y2, hy2⟩ : ∃ y, y6.alloc (.cells (iV (List.replicate m 0)).toArray 3) = y := ⟨_, rfl⟩
     rw [hy2, hw2]
     have hx2 : Below y6.heap.size y6 y2 := by rw [← hy2]; exact balloc (Below.refl _ _) _
     have HN2 : Hid (y2.heap[b2]? = some (.cells (iV (List.replicate m 0)).toArray 3 (0, 0))) := Lib.hid (by rw [← hy2, ← hw2]; exact heap_alloc_new _ _)
     have HG2 : Hid (w3.heap.size ≤ b2) := Lib.hid (by have := HBE.out.size; omega)
     have HNE2_9 : Hid (b2 ≠ b9) := Lib.hid (by have := (Array.getElem?_eq_some_iff.1 HN9.out).1; omega)
     have HNE2_5 : Hid (b2 ≠ b5) := Lib.hid (by have := (Array.getElem?_eq_some_iff.1 HN5.out).1; omega)
     have HNE2_6 : Hid (b2 ≠ b6) := Lib.hid (by have := (Array.getElem?_eq_some_iff.1 HN6.out).1; omega)
     clear hy2 hw2
     have HBE := Lib.hid (bthen HBE.out hx2)
     have hSp := HSS.out _ HBE.out
     clear hHeld
     refine hK.out _ _ hSp (fun hHeld => ?_)
     clear hSp hK K
     try simp only [Act.put, List.setIfInBounds_toArray, List.set_cons_zero, List.set_cons_succ]
     have HN9 := Lib.hid ((hx2.block b9 (Array.getElem?_eq_some_iff.1 HN9.out).1).trans HN9.out)
     have HN5 := Lib.hid ((hx2.block b5 (Array.getElem?_eq_some_iff.1 HN5.out).1).trans HN5.out)
     have HN6 := Lib.hid ((hx2.block b6 (Array.getElem?_eq_some_iff.1 HN6.out).1).trans HN6.out)
     clear hx2
     refine wpAnyH_take (i := 7) (v := .agg #[.slice (some ⟨b2, 0, none⟩) m m, .slice (some ⟨b5, 0, none⟩) k k, .map (some b6), .slice none 0 0]) rfl (by kernel_rfl) (by kernel_rfl) (by kernel_rfl) (fun _ _ _ h => h) (Or.inl ⟨by rfl, ?_⟩) (by assumption) ?_
     ·(intro w hSw; simp only [List.getElem_toArray, List.getElem_cons_zero, List.getElem_cons_succ]; (have hbu := nm_built b2 m b5 k b6; go_simp; first | done | with_reducible rfl))
     simp only [List.getElem_toArray, List.getElem_cons_zero, List.getElem_cons_succ, Act.put, List.setIfInBounds_toArray, List.set_cons_zero, List.set_cons_succ]
     refine wpAnyH_ready (rs := [8]) (by kernel_rfl) (by simp) ?_
     refine AllReadyH.cons rfl (fun K hK => ?_) (AllReadyH.nil)
     simp only [List.getElem_toArray, List.getElem_cons_zero, List.getElem_cons_succ]
     go_simp
     obtain ⟨b8, hw8⟩ : ∃ b, y2.heap.size = b := ⟨_, rfl⟩
     obtain ⟨y8, hy8⟩ : ∃ y, y2.alloc (.cells #[.slice (some ⟨b2, 0, none⟩) m m, .slice (some ⟨b5, 0, none⟩) k k, .map (some b6), .slice none 0 0] 327) = y := ⟨_, rfl⟩
     rw [hy8, hw8]
     have hx8 : Below y2.heap.size y2 y8 := by rw [← hy8]; exact balloc (Below.refl _ _) _
     have HN8 : Hid (y8.heap[b8]? = some (.cells #[.slice (some ⟨b2, 0, none⟩) m m, .slice (some ⟨b5, 0, none⟩) k k, .map (some b6), .slice none 0 0] 327 (0, 0))) := Lib.hid (by rw [← hy8, ← hw8]; exact heap_alloc_new _ _)
     have HG8 : Hid (w3.heap.size ≤ b8) := Lib.hid (by have := HBE.out.size; omega)
     have HNE8_9 : Hid (b8 ≠ b9) := Lib.hid (by have := (Array.getElem?_eq_some_iff.1 HN9.out).1; omega)
     have HNE5_8 : Hid (b5 ≠ b8) := Lib.hid (by have := (Array.getElem?_eq_some_iff.1 HN5.out).1; omega)
     have HNE6_8 : Hid (b6 ≠ b8) := Lib.hid (by have := (Array.getElem?_eq_some_iff.1 HN6.out).1; omega)
     have HNE2_8 : Hid (b2 ≠ b8) := Lib.hid (by have := (Array.getElem?_eq_some_iff.1 HN2.out).1; omega)
     clear hy8 hw8
     have HBE := Lib.hid (bthen HBE.out hx8)
     have hSp := HSS.out _ HBE.out
     clear hHeld
     refine hK.out _ _ hSp (fun hHeld => ?_)
     clear hSp hK K
     try simp only [Act.put, List.setIfInBounds_toArray, List.set_cons_zero, List.set_cons_succ]
     have HN9 := Lib.hid ((hx8.block b9 (Array.getElem?_eq_some_iff.1 HN9.out).1).trans HN9.out)
     have HN5 := Lib.hid ((hx8.block b5 (Array.getElem?_eq_some_iff.1 HN5.out).1).trans HN5.out)
     have HN6 := Lib.hid ((hx8.block b6 (Array.getElem?_eq_some_iff.1 HN6.out).1).trans HN6.out)
     have HN2 := Lib.hid ((hx8.block b2 (Array.getElem?_eq_some_iff.1 HN2.out).1).trans HN2.out)
     clear hx8
     refine wpAnyH_ready (rs := [10]) (by kernel_rfl) (by simp) ?_
     refine AllReadyH.cons rfl (fun K hK => ?_) (AllReadyH.nil)
     have hc10_0 := cellOf HN9.out 0 rfl
     have hf10_0 := frozenOf HN9.out 0
     simp only [List.getElem_toArray, List.getElem_cons_zero, List.getElem_cons_succ]
     go_simp
     obtain ⟨y10, hy10⟩ : ∃ y, (y8.setCell ⟨b9, 0, none⟩ (.pointer (some ⟨b8, 0, none⟩))) = y := ⟨_, rfl⟩
     rw [hy10]
     have hm10 : Mods [b9] y8 y10 := by rw [← hy10]; exact (Mods.refl [b9] y8).setCell (p := ⟨b9, 0, none⟩) (by simp) _
     have hv10 := setOf (HN9.out) 0 (.pointer (some ⟨b8, 0, none⟩))
     rw [hy10] at hv10
     clear hy10 hc10_0 hf10_0
     have HBE : Hid (Below w3.heap.size w3 y10) := Lib.hid (HBE.out.trans (hm10.below (fun k hk => by have := HG9.out; have e := List.mem_singleton.1 hk; omega) HBE.out.size))
     have hSp := HSS.out _ HBE.out
     clear hHeld
     refine hK.out _ _ hSp (fun hHeld => ?_)
     clear hSp hK K
     try simp only [Act.put, List.setIfInBounds_toArray, List.set_cons_zero, List.set_cons_succ]
     have HN5 := Lib.hid ((hm10.block b5 (Array.getElem?_eq_some_iff.1 HN5.out).1 (fun h => by have e := List.mem_singleton.1 h; have := HNE5_9.out; omega)).trans HN5.out)
     have HN6 := Lib.hid ((hm10.block b6 (Array.getElem?_eq_some_iff.1 HN6.out).1 (fun h => by have e := List.mem_singleton.1 h; have := HNE6_9.out; omega)).trans HN6.out)
     have HN2 := Lib.hid ((hm10.block b2 (Array.getElem?_eq_some_iff.1 HN2.out).1 (fun h => by have e := List.mem_singleton.1 h; have := HNE2_9.out; omega)).trans HN2.out)
     have HN8 := Lib.hid ((hm10.block b8 (Array.getElem?_eq_some_iff.1 HN8.out).1 (fun h => by have e := List.mem_singleton.1 h; have := HNE8_9.out; omega)).trans HN8.out)
     simp only [List.setIfInBounds_toArray, List.set_cons_zero, List.set_cons_succ] at hv10
     have HN9 := Lib.hid hv10
     clear hv10 hm10
     refine wpAnyH_done (by kernel_rfl) ?_ _
     have HEND := Lib.hid hHeld.2
     have HSE := Lib.hid hHeld.1
     clear hHeld
     clear HSE HSS
     go_wp2_with fail
     go_meet
     exact ⟨_, b9, b8, b2, b5, b6, rfl, rfl, HEND.out, HG2.out, HN9.out, ⟨HN8.out, HN2.out, HN5.out, HNE2_5.out⟩⟩
   ·skip
    have hmm := @run_makeMap Tryz.prog
    simp only [List.getElem_toArray, List.getElem_cons_zero, List.getElem_cons_succ]
    go_simp
    clear hmm
    obtain ⟨b6, hw6⟩ : ∃ b, y9.heap.size = b := ⟨_, rfl⟩
    obtain ⟨y6, hy6⟩ : ∃ y, y9.alloc (.map #[] 0) = y := ⟨_, rfl⟩
    rw [hy6, hw6]
    have hx6 : Below y9.heap.size y9 y6 := by rw [← hy6]; exact balloc (Below.refl _ _) _
    have HN6 : Hid (y6.heap[b6]? = some (.map #[] 0)) := Lib.hid (by rw [← hy6, ← hw6]; exact heap_alloc_new _ _)
    have HG6 : Hid (w3.heap.size ≤ b6) := Lib.hid (by have := HBE.out.size; omega)
    have HNE6_9 : Hid (b6 ≠ b9) := Lib.hid (by have := (Array.getElem?_eq_some_iff.1 HN9.out).1; omega)
    clear hy6 hw6
    have HBE := Lib.hid (bthen HBE.out hx6)
    have hSp := HSS.out _ HBE.out
    clear hHeld
    refine hK.out _ _ hSp (fun hHeld => ?_)
    clear hSp hK K
    try simp only [Act.put, List.setIfInBounds_toArray, List.set_cons_zero, List.set_cons_succ]
    have HN9 := Lib.hid ((hx6.block b9 (Array.getElem?_eq_some_iff.1 HN9.out).1).trans HN9.out)
    clear hx6
    refine wpAnyH_ready (rs := [2, 5]) (by kernel_rfl) (by simp) ?_
    refine AllReadyH.cons rfl (fun K hK => ?_) (AllReadyH.cons rfl (fun K hK => ?_) (AllReadyH.nil))
    ·skip
     have hmm := run_mkI y6 m (by omega)
     simp only [List.getElem_toArray, List.getElem_cons_zero, List.getElem_cons_succ]
     go_simp
     clear hmm
     obtain ⟨b2, hw2⟩ : ∃ b, y6.heap.size = b := ⟨_, rfl⟩
     obtain ⟨y2, hy2⟩ : ∃ y, y6.alloc (.cells (iV (List.replicate m 0)).toArray 3) = y := ⟨_, rfl⟩
     rw [hy2, hw2]
     have hx2 : Below y6.heap.size y6 y2 := by rw [← hy2]; exact balloc (Below.refl _ _) _
     have HN2 : Hid (y2.heap[b2]? = some (.cells (iV (List.replicate m 0)).toArray 3 (0, 0))) := Lib.hid (by rw [← hy2, ← hw2]; exact heap_alloc_new _ _)
     have HG2 : Hid (w3.heap.size ≤ b2) := Lib.hid (by have := HBE.out.size; omega)
     have HNE2_9 : Hid (b2 ≠ b9) := Lib.hid (by have := (Array.getElem?_eq_some_iff.1 HN9.out).1; omega)
     have HNE2_6 : Hid (b2 ≠ b6) := Lib.hid (by have := (Array.getElem?_eq_some_iff.1 HN6.out).1; omega)
     clear hy2 hw2
     have HBE := Lib.hid (bthen HBE.out hx2)
     have hSp := HSS.out _ HBE.out
     clear hHeld
     refine hK.out _ _ hSp (fun hHeld => ?_)
     clear hSp hK K
     try simp only [Act.put, List.setIfInBounds_toArray, List.set_cons_zero, List.set_cons_succ]
     have HN9 := Lib.hid ((hx2.block b9 (Array.getElem?_eq_some_iff.1 HN9.out).1).trans HN9.out)
     have HN6 := Lib.hid ((hx2.block b6 (Array.getElem?_eq_some_iff.1 HN6.out).1).trans HN6.out)
     clear hx2
     refine wpAnyH_ready (rs := [5]) (by kernel_rfl) (by simp) ?_
     refine AllReadyH.cons rfl (fun K hK => ?_) (AllReadyH.nil)
     have hmm := run_mkI y2 k (by omega)
     simp only [List.getElem_toArray, List.getElem_cons_zero, List.getElem_cons_succ]
     go_simp
     clear hmm
     obtain ⟨b5, hw5⟩ : ∃ b, y2.heap.size = b := ⟨_, rfl⟩
     obtain ⟨y5, hy5⟩ : ∃ y, y2.alloc (.cells (iV (List.replicate k 0)).toArray 3) = y := ⟨_, rfl⟩
     rw [hy5, hw5]
     have hx5 : Below y2.heap.size y2 y5 := by rw [← hy5]; exact balloc (Below.refl _ _) _
     have HN5 : Hid (y5.heap[b5]? = some (.cells (iV (List.replicate k 0)).toArray 3 (0, 0))) := Lib.hid (by rw [← hy5, ← hw5]; exact heap_alloc_new _ _)
     have HG5 : Hid (w3.heap.size ≤ b5) := Lib.hid (by have := HBE.out.size; omega)
     have HNE5_9 : Hid (b5 ≠ b9) := Lib.hid (by have := (Array.getElem?_eq_some_iff.1 HN9.out).1; omega)
     have HNE5_6 : Hid (b5 ≠ b6) := Lib.hid (by have := (Array.getElem?_eq_some_iff.1 HN6.out).1; omega)
     have HNE2_5 : Hid (b2 ≠ b5) := Lib.hid (by have := (Array.getElem?_eq_some_iff.1 HN2.out).1; omega)
     clear hy5 hw5
     have HBE := Lib.hid (bthen HBE.out hx5)
     have hSp := HSS.out _ HBE.out
     clear hHeld
     refine hK.out _ _ hSp (fun hHeld => ?_)
     clear hSp hK K
     try simp only [Act.put, List.setIfInBounds_toArray, List.set_cons_zero, List.set_cons_succ]
     have HN9 := Lib.hid ((hx5.block b9 (Array.getElem?_eq_some_iff.1 HN9.out).1).trans HN9.out)
     have HN6 := Lib.hid ((hx5.block b6 (Array.getElem?_eq_some_iff.1 HN6.out).1).trans HN6.out)
     have HN2 := Lib.hid ((hx5.block b2 (Array.getElem?_eq_some_iff.1 HN2.out).1).trans HN2.out)
     clear hx5
     refine wpAnyH_take (i := 7) (v := .agg #[.slice (some ⟨b2, 0, none⟩) m m, .slice (some ⟨b5, 0, none⟩) k k, .map (some b6), .slice none 0 0]) rfl (by kernel_rfl) (by kernel_rfl) (by kernel_rfl) (fun _ _ _ h => h) (Or.inl ⟨by rfl, ?_⟩) (by assumption) ?_
     ·(intro w hSw; simp only [List.getElem_toArray, List.getElem_cons_zero, List.getElem_cons_succ]; (have hbu := nm_built b2 m b5 k b6; go_simp; first | done | with_reducible rfl))
     simp only [List.getElem_toArray, List.getElem_cons_zero, List.getElem_cons_succ, Act.put, List.setIfInBounds_toArray, List.set_cons_zero, List.set_cons_succ]
     refine wpAnyH_ready (rs := [8]) (by kernel_rfl) (by simp) ?_
     refine AllReadyH.cons rfl (fun K hK => ?_) (AllReadyH.nil)
     simp only [List.getElem_toArray, List.getElem_cons_zero, List.getElem_cons_succ]
     go_simp
     obtain ⟨b8, hw8⟩ : ∃ b, y5.heap.size = b := ⟨_, rfl⟩
     obtain ⟨y8, hy8⟩ : ∃ y, y5.alloc (.cells #[.slice (some ⟨b2, 0, none⟩) m m, .slice (some ⟨b5, 0, none⟩) k k, .map (some b6), .slice none 0 0] 327) = y := ⟨_, rfl⟩
     rw [hy8, hw8]
     have hx8 : Below y5.heap.size y5 y8 := by rw [← hy8]; exact balloc (Below.refl _ _) _
     have HN8 : Hid (y8.heap[b8]? = some (.cells #[.slice (some ⟨b2, 0, none⟩) m m, .slice (some ⟨b5, 0, none⟩) k k, .map (some b6), .slice none 0 0] 327 (0, 0))) := Lib.hid (by rw [← hy8, ← hw8]; exact heap_alloc_new _ _)
     have HG8 : Hid (w3.heap.size ≤ b8) := Lib.hid (by have := HBE.out.size; omega)
     have HNE8_9 : Hid (b8 ≠ b9) := Lib.hid (by have := (Array.getElem?_eq_some_iff.1 HN9.out).1; omega)
     have HNE6_8 : Hid (b6 ≠ b8) := Lib.hid (by have := (Array.getElem?_eq_some_iff.1 HN6.out).1; omega)
     have HNE2_8 : Hid (b2 ≠ b8) := Lib.hid (by have := (Array.getElem?_eq_some_iff.1 HN2.out).1; omega)
     have HNE5_8 : Hid (b5 ≠ b8) := Lib.hid (by have := (Array.getElem?_eq_some_iff.1 HN5.out).1; omega)
     clear hy8 hw8
     have HBE := Lib.hid (bthen HBE.out hx8)
     have hSp := HSS.out _ HBE.out
     clear hHeld
     refine hK.out _ _ hSp (fun hHeld => ?_)
     clear hSp hK K
     try simp only [Act.put, List.setIfInBounds_toArray, List.set_cons_zero, List.set_cons_succ]
     have HN9 := Lib.hid ((hx8.block b9 (Array.getElem?_eq_some_iff.1 HN9.out).1).trans HN9.out)
     have HN6 := Lib.hid ((hx8.block b6 (Array.getElem?_eq_some_iff.1 HN6.out).1).trans HN6.out)
     have HN2 := Lib.hid ((hx8.block b2 (Array.getElem?_eq_some_iff.1 HN2.out).1).trans HN2.out)
     have HN5 := Lib.hid ((hx8.block b5 (Array.getElem?_eq_some_iff.1 HN5.out).1).trans HN5.out)
     clear hx8
     refine wpAnyH_ready (rs := [10]) (by kernel_rfl) (by simp) ?_
     refine AllReadyH.cons rfl (fun K hK => ?_) (AllReadyH.nil)
     have hc10_0 := cellOf HN9.out 0 rfl
     have hf10_0 := frozenOf HN9.out 0
     simp only [List.getElem_toArray, List.getElem_cons_zero, List.getElem_cons_succ]
     go_simp
     obtain ⟨y10, hy10⟩ : ∃ y, (y8.setCell ⟨b9, 0, none⟩ (.pointer (some ⟨b8, 0, none⟩))) = y := ⟨_, rfl⟩
     rw [hy10]
     have hm10 : Mods [b9] y8 y10 := by rw [← hy10]; exact (Mods.refl [b9] y8).setCell (p := ⟨b9, 0, none⟩) (by simp) _
     have hv10 := setOf (HN9.out) 0 (.pointer (some ⟨b8, 0, none⟩))
     rw [hy10] at hv10
     clear hy10 hc10_0 hf10_0
     have HBE : Hid (Below w3.heap.size w3 y10) := Lib.hid (HBE.out.trans (hm10.below (fun k hk => by have := HG9.out; have e := List.mem_singleton.1 hk; omega) HBE.out.size))
     have hSp := HSS.out _ HBE.out
     clear hHeld
     refine hK.out _ _ hSp (fun hHeld => ?_)
     clear hSp hK K
     try simp only [Act.put, List.setIfInBounds_toArray, List.set_cons_zero, List.set_cons_succ]
     have HN6 := Lib.hid ((hm10.block b6 (Array.getElem?_eq_some_iff.1 HN6.out).1 (fun h => by have e := List.mem_singleton.1 h; have := HNE6_9.out; omega)).trans HN6.out)
     have HN2 := Lib.hid ((hm10.block b2 (Array.getElem?_eq_some_iff.1 HN2.out).1 (fun h => by have e := List.mem_singleton.1 h; have := HNE2_9.out; omega)).trans HN2.out)
     have HN5 := Lib.hid ((hm10.block b5 (Array.getElem?_eq_some_iff.1 HN5.out).1 (fun h => by have e := List.mem_singleton.1 h; have := HNE5_9.out; omega)).trans HN5.out)
     have HN8 := Lib.hid ((hm10.block b8 (Array.getElem?_eq_some_iff.1 HN8.out).1 (fun h => by have e := List.mem_singleton.1 h; have := HNE8_9.out; omega)).trans HN8.out)
     simp only [List.setIfInBounds_toArray, List.set_cons_zero, List.set_cons_succ] at hv10
     have HN9 := Lib.hid hv10
     clear hv10 hm10
     refine wpAnyH_done (by kernel_rfl) ?_ _
     have HEND := Lib.hid hHeld.2
     have HSE := Lib.hid hHeld.1
     clear hHeld
     clear HSE HSS
     go_wp2_with fail
     go_meet
     exact ⟨_, b9, b8, b2, b5, b6, rfl, rfl, HEND.out, HG2.out, HN9.out, ⟨HN8.out, HN2.out, HN5.out, HNE2_5.out⟩⟩
    ·skip
     have hmm := run_mkI y6 k (by omega)
     simp only [List.getElem_toArray, List.getElem_cons_zero, List.getElem_cons_succ]
     go_simp
     clear hmm
     obtain ⟨b5, hw5⟩ : ∃ b, y6.heap.size = b := ⟨_, rfl⟩
     obtain ⟨y5, hy5⟩ : ∃ y, y6.alloc (.cells (iV (List.replicate k 0)).toArray 3) = y := ⟨_, rfl⟩
     rw [hy5, hw5]
     have hx5 : Below y6.heap.size y6 y5 := by rw [← hy5]; exact balloc (Below.refl _ _) _
     have HN5 : Hid (y5.heap[b5]? = some (.cells (iV (List.replicate k 0)).toArray 3 (0, 0))) := Lib.hid (by rw [← hy5, ← hw5]; exact heap_alloc_new _ _)
     have HG5 : Hid (w3.heap.size ≤ b5) := Lib.hid (by have := HBE.out.size; omega)
     have HNE5_9 : Hid (b5 ≠ b9) := Lib.hid (by have := (Array.getElem?_eq_some_iff.1 HN9.out).1; omega)
     have HNE5_6 : Hid (b5 ≠ b6) := Lib.hid (by have := (Array.getElem?_eq_some_iff.1 HN6.out).1; omega)
     clear hy5 hw5
     have HBE := Lib.hid (bthen HBE.out hx5)
     have hSp := HSS.out _ HBE.out
     clear hHeld
     refine hK.out _ _ hSp (fun hHeld => ?_)
     clear hSp hK K
     try simp only [Act.put, List.setIfInBounds_toArray, List.set_cons_zero, List.set_cons_succ]
     have HN9 := Lib.hid ((hx5.block b9 (Array.getElem?_eq_some_iff.1 HN9.out).1).trans HN9.out)
     have HN6 := Lib.hid ((hx5.block b6 (Array.getElem?_eq_some_iff.1 HN6.out).1).trans HN6.out)
     clear hx5
     refine wpAnyH_ready (rs := [2]) (by kernel_rfl) (by simp) ?_
     refine AllReadyH.cons rfl (fun K hK => ?_) (AllReadyH.nil)
     have hmm := run_mkI y5 m (by omega)
     simp only [List.getElem_toArray, List.getElem_cons_zero, List.getElem_cons_succ]
     go_simp
     clear hmm
     obtain ⟨b2, hw2⟩ : ∃ b, y5.heap.size = b := ⟨_, rfl⟩
     obtain ⟨y2, hy2⟩ : ∃ y, y5.alloc (.cells (iV (List.replicate m 0)).toArray 3) = y := ⟨_, rfl⟩
     rw [hy2, hw2]
     have hx2 : Below y5.heap.size y5 y2 := by rw [← hy2]; exact balloc (Below.refl _ _) _
     have HN2 : Hid (y2.heap[b2]? = some (.cells (iV (List.replicate m 0)).toArray 3 (0, 0))) := Lib.hid (by rw [← hy2, ← hw2]; exact heap_alloc_new _ _)
     have HG2 : Hid (w3.heap.size ≤ b2) := Lib.hid (by have := HBE.out.size; omega)
     have HNE2_9 : Hid (b2 ≠ b9) := Lib.hid (by have := (Array.getElem?_eq_some_iff.1 HN9.out).1; omega)
     have HNE2_6 : Hid (b2 ≠ b6) := Lib.hid (by have := (Array.getElem?_eq_some_iff.1 HN6.out).1; omega)
     have HNE2_5 : Hid (b2 ≠ b5) := Lib.hid (by have := (Array.getElem?_eq_some_iff.1 HN5.out).1; omega)
     clear hy2 hw2
     have HBE := Lib.hid (bthen HBE.out hx2)
     have hSp := HSS.out _ HBE.out
     clear hHeld
     refine hK.out _ _ hSp (fun hHeld => ?_)
     clear hSp hK K
     try simp only [Act.put, List.setIfInBounds_toArray, List.set_cons_zero, List.set_cons_succ]
     have HN9 := Lib.hid ((hx2.block b9 (Array.getElem?_eq_some_iff.1 HN9.out).1).trans HN9.out)
     have HN6 := Lib.hid ((hx2.block b6 (Array.getElem?_eq_some_iff.1 HN6.out).1).trans HN6.out)
     have HN5 := Lib.hid ((hx2.block b5 (Array.getElem?_eq_some_iff.1 HN5.out).1).trans HN5.out)
     clear hx2
     refine wpAnyH_take (i := 7) (v := .agg #[.slice (some ⟨b2, 0, none⟩) m m, .slice (some ⟨b5, 0, none⟩) k k, .map (some b6), .slice none 0 0]) rfl (by kernel_rfl) (by kernel_rfl) (by kernel_rfl) (fun _ _ _ h => h) (Or.inl ⟨by rfl, ?_⟩) (by assumption) ?_
     ·(intro w hSw; simp only [List.getElem_toArray, List.getElem_cons_zero, List.getElem_cons_succ]; (have hbu := nm_built b2 m b5 k b6; go_simp; first | done | with_reducible rfl))
     simp only [List.getElem_toArray, List.getElem_cons_zero, List.getElem_cons_succ, Act.put, List.setIfInBounds_toArray, List.set_cons_zero, List.set_cons_succ]
     refine wpAnyH_ready (rs := [8]) (by kernel_rfl) (by simp) ?_
     refine AllReadyH.cons rfl (fun K hK => ?_) (AllReadyH.nil)
     simp only [List.getElem_toArray, List.getElem_cons_zero, List.getElem_cons_succ]
     go_simp
     obtain ⟨b8, hw8⟩ : ∃ b, y2.heap.size = b := ⟨_, rfl⟩
     obtain ⟨y8, hy8⟩ : ∃ y, y2.alloc (.cells #[.slice (some ⟨b2, 0, none⟩) m m, .slice (some ⟨b5, 0, none⟩) k k, .map (some b6), .slice none 0 0] 327) = y := ⟨_, rfl⟩
     rw [hy8, hw8]
     have hx8 : Below y2.heap.size y2 y8 := by rw [← hy8]; exact balloc (Below.refl _ _) _
     have HN8 : Hid (y8.heap[b8]? = some (.cells #[.slice (some ⟨b2, 0, none⟩) m m, .slice (some ⟨b5, 0, none⟩) k k, .map (some b6), .slice none 0 0] 327 (0, 0))) := Lib.hid (by rw [← hy8, ← hw8]; exact heap_alloc_new _ _)
     have HG8 : Hid (w3.heap.size ≤ b8) := Lib.hid (by have := HBE.out.size; omega)
     have HNE8_9 : Hid (b8 ≠ b9) := Lib.hid (by have := (Array.getElem?_eq_some_iff.1 HN9.out).1; omega)
     have HNE6_8 : Hid (b6 ≠ b8) := Lib.hid (by have := (Array.getElem?_eq_some_iff.1 HN6.out).1; omega)
     have HNE5_8 : Hid (b5 ≠ b8) := Lib.hid (by have := (Array.getElem?_eq_some_iff.1 HN5.out).1; omega)
     have HNE2_8 : Hid (b2 ≠ b8) := Lib.hid (by have := (Array.getElem?_eq_some_iff.1 HN2.out).1; omega)
     clear hy8 hw8
     have HBE := Lib.hid (bthen HBE.out hx8)
     have hSp := HSS.out _ HBE.out
     clear hHeld
     refine hK.out _ _ hSp (fun hHeld => ?_)
     clear hSp hK K
     try simp only [Act.put, List.setIfInBounds_toArray, List.set_cons_zero, List.set_cons_succ]
     have HN9 := Lib.hid ((hx8.block b9 (Array.getElem?_eq_some_iff.1 HN9.out).1).trans HN9.out)
     have HN6 := Lib.hid ((hx8.block b6 (Array.getElem?_eq_some_iff.1 HN6.out).1).trans HN6.out)
     have HN5 := Lib.hid ((hx8.block b5 (Array.getElem?_eq_some_iff.1 HN5.out).1).trans HN5.out)
     have HN2 := Lib.hid ((hx8.block b2 (Array.getElem?_eq_some_iff.1 HN2.out).1).trans HN2.out)
     clear hx8
     refine wpAnyH_ready (rs := [10]) (by kernel_rfl) (by simp) ?_
     refine AllReadyH.cons rfl (fun K hK => ?_) (AllReadyH.nil)
     have hc10_0 := cellOf HN9.out 0 rfl
     have hf10_0 := frozenOf HN9.out 0
     simp only [List.getElem_toArray, List.getElem_cons_zero, List.getElem_cons_succ]
     go_simp
     obtain ⟨y10, hy10⟩ : ∃ y, (y8.setCell ⟨b9, 0, none⟩ (.pointer (some ⟨b8, 0, none⟩))) = y := ⟨_, rfl⟩
     rw [hy10]
     have hm10 : Mods [b9] y8 y10 := by rw [← hy10]; exact (Mods.refl [b9] y8).setCell (p := ⟨b9, 0, none⟩) (by simp) _
     have hv10 := setOf (HN9.out) 0 (.pointer (some ⟨b8, 0, none⟩))
     rw [hy10] at hv10
     clear hy10 hc10_0 hf10_0
     have HBE : Hid (Below w3.heap.size w3 y10) := Lib.hid (HBE.out.trans (hm10.below (fun k hk => by have := HG9.out; have e := List.mem_singleton.1 hk; omega) HBE.out.size))
     have hSp := HSS.out _ HBE.out
     clear hHeld
     refine hK.out _ _ hSp (fun hHeld => ?_)
     clear hSp hK K
     try simp only [Act.put, List.setIfInBounds_toArray, List.set_cons_zero, List.set_cons_succ]
     have HN6 := Lib.hid ((hm10.block b6 (Array.getElem?_eq_some_iff.1 HN6.out).1 (fun h => by have e := List.mem_singleton.1 h; have := HNE6_9.out; omega)).trans HN6.out)
     have HN5 := Lib.hid ((hm10.block b5 (Array.getElem?_eq_some_iff.1 HN5.out).1 (fun h => by have e := List.mem_singleton.1 h; have := HNE5_9.out; omega)).trans HN5.out)
     have HN2 := Lib.hid ((hm10.block b2 (Array.getElem?_eq_some_iff.1 HN2.out).1 (fun h => by have e := List.mem_singleton.1 h; have := HNE2_9.out; omega)).trans HN2.out)
     have HN8 := Lib.hid ((hm10.block b8 (Array.getElem?_eq_some_iff.1 HN8.out).1 (fun h => by have e := List.mem_singleton.1 h; have := HNE8_9.out; omega)).trans HN8.out)
     simp only [List.setIfInBounds_toArray, List.set_cons_zero, List.set_cons_succ] at hv10
     have HN9 := Lib.hid hv10
     clear hv10 hm10
     refine wpAnyH_done (by kernel_rfl) ?_ _
     have HEND := Lib.hid hHeld.2
     have HSE := Lib.hid hHeld.1
     clear hHeld
     clear HSE HSS
     go_wp2_with fail
     go_meet
     exact ⟨_, b9, b8, b2, b5, b6, rfl, rfl, HEND.out, HG2.out, HN9.out, ⟨HN8.out, HN2.out, HN5.out, HNE2_5.out⟩⟩
 case rest =>
  obtain ⟨W2, tb, q, gm, gd, mp, rfl, rfl, hbw, hgm, htb, hnm⟩ := hcut
  have HBW2 := Lib.hid (bthn HB3.out hbw)
  have HGM4 : Hid (w.heap.size ≤ gm) := Lib.hid (Nat.le_trans HB3.out.size hgm)
  have hx2 : W2.heap[xb]? = some (.cells (suL s).toArray 72 (0, 0)) := (hbw.block _ HXL.out).trans HX3.out
  obtain ⟨rb, hrb⟩ : ∃ r, W2.heap.size = r := ⟨_, rfl⟩
  obtain ⟨w5, hw5⟩ : ∃ X, W2.alloc (.cells #[.nilFunc] 271) = X := ⟨_, rfl⟩
  have hb5 : Below W2.heap.size W2 w5 := by rw [← hw5]; exact balloc (Below.refl _ _) _
  have hf5 : w5.heap[rb]? = some (.cells #[.nilFunc] 271 (0, 0)) := by rw [← hw5, ← hrb]; exact heap_alloc_new _ _
  have ff5 := frozenOf hf5 0
  have fc5 := cellOf hf5 0 rfl
  obtain ⟨w6, hw6⟩ : ∃ X, w5.setCell ⟨rb, 0, none⟩ (.func (.func 218) #[] #[.pointer (some ⟨tb, 0, none⟩), .pointer (some ⟨w.heap.size, 0, none⟩), .pointer (some ⟨rb, 0, none⟩)]) = X := ⟨_, rfl⟩
  have hb6 : Below W2.heap.size W2 w6 := by rw [← hw6]; exact hb5.setCell (p := ⟨rb, 0, none⟩) (by rw [hrb]; exact Nat.le_refl _) _
  have HRB6 : Hid (w6.heap[rb]? = some (.cells #[.func (.func 218) #[] #[.pointer (some ⟨tb, 0, none⟩), .pointer (some ⟨w.heap.size, 0, none⟩), .pointer (some ⟨rb, 0, none⟩)]] 271 (0, 0))) := Lib.hid (by rw [← hw6]; exact setOf hf5 0 _)
  have HNM6 := Lib.hid (hnm.below hb6)
  have HTB6 : Hid (w6.heap[tb]? = some (.cells #[.pointer (some ⟨q, 0, none⟩)] 323 (0, 0))) := Lib.hid ((hb6.block _ (Array.getElem?_eq_some_iff.1 htb).1).trans htb)
  have HX6' : Hid (w6.heap[xb]? = some (.cells (suL s).toArray 72 (0, 0))) := Lib.hid ((hb6.block _ (Array.getElem?_eq_some_iff.1 hx2).1).trans hx2)
  have HB6' := Lib.hid (bthn HBW2.out hb6)
  clear hbw hgm htb hnm hx2 hb5 hf5 hb6
  have hsf := run_store_func
  go_upto_region 5 with fail
  clear hsf
  (try rw [hw5])
  (try rw [hrb])
  (try rw [hw6])
  clear hw5 hw6 hrb ff5 fc5 hmf
  have ct := cellOf HTB6.out 0 rfl
  have cq := cellOf HNM6.out.1 0 rfl
  obtain ⟨cm, fm⟩ := HNM6.out.2.1.cell (j := 0) (c := 0) (by rw [List.getElem?_replicate, if_pos (by omega)])
  have him : (0 : Int) < (m : Int) := by omega
  obtain ⟨w7, hw7⟩ : ∃ X, w6.setCell ⟨gm, 0, none⟩ (.int .i64 1) = X := ⟨_, rfl⟩
  have HNM4 : Hid (NmAt w7 q gm gd mp m k (ctK m 0) (List.replicate k 0)) := Lib.hid (by rw [← hw7, ← ctK_0 (by omega)]; exact HNM6.out.inc 0 1)
  have HTB4 : Hid (w7.heap[tb]? = some (.cells #[.pointer (some ⟨q, 0, none⟩)] 323 (0, 0))) := Lib.hid (by rw [← hw7]; exact (Below.heap_setCell w6 ⟨gm, 0, none⟩ _ tb (tag_ne HTB6.out HNM6.out.2.1 (by decide))).trans HTB6.out)
  have HX4 : Hid (w7.heap[xb]? = some (.cells (suL s).toArray 72 (0, 0))) := Lib.hid (by rw [← hw7]; exact (Below.heap_setCell w6 ⟨gm, 0, none⟩ _ xb (tag_ne HX6'.out HNM6.out.2.1 (by decide))).trans HX6'.out)
  have HRB4 : Hid (w7.heap[rb]? = some (.cells #[.func (.func 218) #[] #[.pointer (some ⟨tb, 0, none⟩), .pointer (some ⟨w.heap.size, 0, none⟩), .pointer (some ⟨rb, 0, none⟩)]] 271 (0, 0))) := Lib.hid (by rw [← hw7]; exact (Below.heap_setCell w6 ⟨gm, 0, none⟩ _ rb (tag_ne HRB6.out HNM6.out.2.1 (by decide))).trans HRB6.out)
  have HB4 : Hid (Below w.heap.size w w7) := Lib.hid (by rw [← hw7]; exact HB6'.out.setCell (p := ⟨gm, 0, none⟩) HGM4.out _)
  have HC14 : Hid (w7.cell? ⟨xb, 1, none⟩ = some (.int .i64 (m : Int))) := Lib.hid (cellOf HX4.out 1 (by rw [← HSM.out.1]; rfl))
  have HC24 : Hid (w7.cell? ⟨xb, 2, none⟩ = some (.int .i64 (k : Int))) := Lib.hid (cellOf HX4.out 2 (by rw [← HSM.out.2]; rfl))
  have HXL4 : Hid (xb < w7.heap.size) := Lib.hid (Array.getElem?_eq_some_iff.1 HX4.out).1
  have hsl := run_slicePg xb P (by omega)
  obtain ⟨f, hf⟩ : ∃ f, pagesN m = f := ⟨_, rfl⟩
  obtain ⟨f2, hf2⟩ : ∃ f, pagesN k = f := ⟨_, rfl⟩
  have CP1 : Hid (∀ X, Calls Tryz.prog 134 #[.int .i64 (m : Int)] X fun e w' => e = .returned (.int .i64 (f : Int)) ∧ Below X.heap.size X w') := Lib.hid (fun X => by rw [← hf]; exact CPG.out X m hm.2)
  have CP2 : Hid (∀ X, Calls Tryz.prog 134 #[.int .i64 (k : Int)] X fun e w' => e = .returned (.int .i64 (f2 : Int)) ∧ Below X.heap.size X w') := Lib.hid (fun X => by rw [← hf2]; exact CPG.out X k hk.2)
  have hPI : ((f : Int) + (f2 : Int)) = (P : Int) := by omega
  have hwr : IntKind.i64.wrap (P : Int) = (P : Int) := IntWalk.i64_in _ ⟨by omega, by omega⟩
  clear hf hf2 hP
  go_wp2_with fail
  (try rw [hw7])
  clear hw7 ct cq cm fm
  have HSS : Hid (∀ X, Below w7.heap.size w7 X → (X.cell? ⟨xb, 1, none⟩ = some (.int .i64 (m : Int)) ∧ X.cell? ⟨xb, 2, none⟩ = some (.int .i64 (k : Int))) ∧ Below w7.heap.size w7 X) := Lib.hid (fun X hb => ⟨⟨(World.cell?_of_block (hb.block _ (HXL4.out))).trans (HC14.out), (World.cell?_of_block (hb.block _ (HXL4.out))).trans (HC24.out)⟩, hb⟩)
  refine wp_region_held_drew (S := fun X => (X.cell? ⟨xb, 1, none⟩ = some (.int .i64 (m : Int)) ∧ X.cell? ⟨xb, 2, none⟩ = some (.int .i64 (k : Int))) ∧ Below w7.heap.size w7 X) (by kernel_rfl) (HSS.out _ (Below.refl _ _).drew) (fun hHeld => ?_)
  have hbe : Below w7.heap.size w7 w7.drew := (Below.refl _ _).drew
  obtain ⟨wd, hwd⟩ : ∃ y, w7.drew = y := ⟨_, rfl⟩
  rw [hwd] at hHeld hbe ⊢
  have HBE := Lib.hid hbe
  have HS0 : Hid (w7.heap.size ≤ wd.heap.size) := Lib.hid HBE.out.size
  clear hwd hbe
  refine wpAnyH_take (i := 0) (v := ?_) rfl (by kernel_rfl) (by kernel_rfl) (by kernel_rfl) (fun _ _ _ h => h) (Or.inl ⟨by rfl, ?_⟩) (by assumption) ?_
  rotate_left
  ·(intro w hSw; (try dsimp only at hSw); simp only [List.getElem_toArray, List.getElem_cons_zero, List.getElem_cons_succ]; go_simp; first | done | with_reducible rfl)
  simp only [List.getElem_toArray, List.getElem_cons_zero, List.getElem_cons_succ, Act.put, List.setIfInBounds_toArray, List.set_cons_zero, List.set_cons_succ]
  refine wpAnyH_take (i := 1) (v := ?_) rfl (by kernel_rfl) (by kernel_rfl) (by kernel_rfl) (fun _ _ _ h => h) (Or.inl ⟨by rfl, ?_⟩) (by assumption) ?_
  rotate_left
  ·(intro w hSw; (try dsimp only at hSw); simp only [List.getElem_toArray, List.getElem_cons_zero, List.getElem_cons_succ]; go_simp; first | done | with_reducible rfl)
  simp only [List.getElem_toArray, List.getElem_cons_zero, List.getElem_cons_succ, Act.put, List.setIfInBounds_toArray, List.set_cons_zero, List.set_cons_succ]
  refine wpAnyH_take (i := 4) (v := ?_) rfl (by kernel_rfl) (by kernel_rfl) (by kernel_rfl) (fun _ _ _ h => h) (Or.inl ⟨by rfl, ?_⟩) (by assumption) ?_
  rotate_left
  ·(intro w hSw; (try dsimp only at hSw); simp only [List.getElem_toArray, List.getElem_cons_zero, List.getElem_cons_succ]; go_simp; first | done | with_reducible rfl)
  simp only [List.getElem_toArray, List.getElem_cons_zero, List.getElem_cons_succ, Act.put, List.setIfInBounds_toArray, List.set_cons_zero, List.set_cons_succ]
  refine wpAnyH_take (i := 10) (v := ?_) rfl (by kernel_rfl) (by kernel_rfl) (by kernel_rfl) (fun _ _ _ h => h) (Or.inl ⟨by rfl, ?_⟩) (by assumption) ?_
  rotate_left
  ·(intro w hSw; (try dsimp only at hSw); simp only [List.getElem_toArray, List.getElem_cons_zero, List.getElem_cons_succ]; go_simp; first | done | with_reducible rfl)
  simp only [List.getElem_toArray, List.getElem_cons_zero, List.getElem_cons_succ, Act.put, List.setIfInBounds_toArray, List.set_cons_zero, List.set_cons_succ]
  refine wpAnyH_take (i := 2) (v := ?_) rfl (by kernel_rfl) (by kernel_rfl) (by kernel_rfl) (fun _ _ _ h => h) (Or.inl ⟨by rfl, ?_⟩) (by assumption) ?_
  rotate_left
  ·(intro w hSw; (try dsimp only at hSw); simp only [List.getElem_toArray, List.getElem_cons_zero, List.getElem_cons_succ]; go_simp; first | done | with_reducible rfl)
  simp only [List.getElem_toArray, List.getElem_cons_zero, List.getElem_cons_succ, Act.put, List.setIfInBounds_toArray, List.set_cons_zero, List.set_cons_succ]
  refine wpAnyH_take (i := 5) (v := ?_) rfl (by kernel_rfl) (by kernel_rfl) (by kernel_rfl) (fun _ _ _ h => h) (Or.inl ⟨by rfl, ?_⟩) (by assumption) ?_
  rotate_left
  ·(intro w hSw; (try dsimp only at hSw); simp only [List.getElem_toArray, List.getElem_cons_zero, List.getElem_cons_succ]; go_simp; first | done | with_reducible rfl)
  simp only [List.getElem_toArray, List.getElem_cons_zero, List.getElem_cons_succ, Act.put, List.setIfInBounds_toArray, List.set_cons_zero, List.set_cons_succ]
  refine wpAnyH_ready (rs := [3]) (by kernel_rfl) (by simp) ?_
  refine AllReadyH.cons rfl (fun K hK => ?_) (AllReadyH.nil)
  simp only [List.getElem_toArray, List.getElem_cons_zero, List.getElem_cons_succ]
  go_simp
  refine (CP1.out _).mono ?_
  rintro e y3 ⟨rfl, hb3⟩
  dsimp only
  have HBE := Lib.hid (bthen HBE.out hb3)
  have hSp := HSS.out _ HBE.out
  clear hHeld
  refine hK.out _ _ hSp (fun hHeld => ?_)
  clear hSp hK K
  try simp only [Act.put, List.setIfInBounds_toArray, List.set_cons_zero, List.set_cons_succ]
  have HC3 := Lib.hid hb3
  clear hb3
  refine wpAnyH_ready (rs := [6]) (by kernel_rfl) (by simp) ?_
  refine AllReadyH.cons rfl (fun K hK => ?_) (AllReadyH.nil)
  simp only [List.getElem_toArray, List.getElem_cons_zero, List.getElem_cons_succ]
  go_simp
  refine (CP2.out _).mono ?_
  rintro e y6 ⟨rfl, hb6⟩
  dsimp only
  have HBE := Lib.hid (bthen HBE.out hb6)
  have hSp := HSS.out _ HBE.out
  clear hHeld
  refine hK.out _ _ hSp (fun hHeld => ?_)
  clear hSp hK K
  try simp only [Act.put, List.setIfInBounds_toArray, List.set_cons_zero, List.set_cons_succ]
  have HC6 := Lib.hid hb6
  clear hb6
  refine wpAnyH_take (i := 7) (v := ?_) rfl (by kernel_rfl) (by kernel_rfl) (by kernel_rfl) (fun _ _ _ h => h) (Or.inl ⟨by rfl, ?_⟩) (by assumption) ?_
  rotate_left
  ·(intro w hSw; (try dsimp only at hSw); simp only [List.getElem_toArray, List.getElem_cons_zero, List.getElem_cons_succ]; go_simp; first | done | with_reducible rfl)
  simp only [List.getElem_toArray, List.getElem_cons_zero, List.getElem_cons_succ, Act.put, List.setIfInBounds_toArray, List.set_cons_zero, List.set_cons_succ]
  refine wpAnyH_take (i := 8) (v := ?_) rfl (by kernel_rfl) (by kernel_rfl) (by kernel_rfl) (fun _ _ _ h => h) (Or.inl ⟨by rfl, ?_⟩) (by assumption) ?_
  rotate_left
  ·(intro w hSw; (try dsimp only at hSw); simp only [List.getElem_toArray, List.getElem_cons_zero, List.getElem_cons_succ]; go_simp; first | done | with_reducible rfl)
  simp only [List.getElem_toArray, List.getElem_cons_zero, List.getElem_cons_succ, Act.put, List.setIfInBounds_toArray, List.set_cons_zero, List.set_cons_succ]
  refine wpAnyH_take (i := 9) (v := ?_) rfl (by kernel_rfl) (by kernel_rfl) (by kernel_rfl) (fun _ _ _ h => h) (Or.inl ⟨by rfl, ?_⟩) (by assumption) ?_
  rotate_left
  ·(intro w hSw; (try dsimp only at hSw); simp only [List.getElem_toArray, List.getElem_cons_zero, List.getElem_cons_succ]; go_simp; first | done | with_reducible rfl)
  simp only [List.getElem_toArray, List.getElem_cons_zero, List.getElem_cons_succ, Act.put, List.setIfInBounds_toArray, List.set_cons_zero, List.set_cons_succ]
  refine wpAnyH_done (by kernel_rfl) ?_ _
  have HEND := Lib.hid hHeld.2
  have HSE := Lib.hid hHeld.1
  clear hHeld
  clear HSS HEND HSE
  have HB6 := Lib.hid (bthn HB4.out HBE.out)
  have HNM := Lib.hid (HNM4.out.below HBE.out)
  have HTB : Hid (y6.heap[tb]? = some (.cells #[.pointer (some ⟨q, 0, none⟩)] 323 (0, 0))) := Lib.hid ((HBE.out.block _ (Array.getElem?_eq_some_iff.1 HTB4.out).1).trans HTB4.out)
  have HX6 : Hid (y6.heap[xb]? = some (.cells (suL s).toArray 72 (0, 0))) := Lib.hid ((HBE.out.block _ (Array.getElem?_eq_some_iff.1 HX4.out).1).trans HX4.out)
  have HRB : Hid (y6.heap[rb]? = some (.cells #[.func (.func 218) #[] #[.pointer (some ⟨tb, 0, none⟩), .pointer (some ⟨w.heap.size, 0, none⟩), .pointer (some ⟨rb, 0, none⟩)]] 271 (0, 0))) := Lib.hid ((HBE.out.block _ (Array.getElem?_eq_some_iff.1 HRB4.out).1).trans HRB4.out)
  go_wp2_with fail
  clear hsl hPI hwr
  go_loopw [40] (fun v wr => ∃ i : Nat, i ≤ P ∧ v = .int .i64 (i : Int) ∧ Below w.heap.size w wr ∧ NmAt wr q gm gd mp m k (ctK m i) (List.replicate k 0) ∧ Mods [gm] y6 wr) (fun v _ => P - (Go.RowKit.intOf v).toNat)
  case atStart => exact ⟨0, by omega, rfl, HB6.out, HNM.out, Mods.refl _ _⟩
  case round =>
   obtain ⟨i, hi, rfl, hbw, hnm, hmm⟩ := hrel
   have HBW := Lib.hid hbw
   have HNW := Lib.hid hnm
   have HMM := Lib.hid hmm
   have HGM : Hid (w.heap.size ≤ gm ∧ tb ≠ gm ∧ xb ≠ gm ∧ rb ≠ gm ∧ tb < y6.heap.size ∧ xb < y6.heap.size ∧ rb < y6.heap.size) := Lib.hid ⟨HGM4.out, tag_ne HTB.out HNM.out.2.1 (by decide), tag_ne HX6.out HNM.out.2.1 (by decide), tag_ne HRB.out HNM.out.2.1 (by decide), (Array.getElem?_eq_some_iff.1 HTB.out).1, (Array.getElem?_eq_some_iff.1 HX6.out).1, (Array.getElem?_eq_some_iff.1 HRB.out).1⟩
   have HTW : Hid (wr.heap[tb]? = some (.cells #[.pointer (some ⟨q, 0, none⟩)] 323 (0, 0))) := Lib.hid ((hmm.block tb HGM.out.2.2.2.2.1 (by have := HGM.out.2.1; simpa using this)).trans HTB.out)
   have HXW : Hid (wr.heap[xb]? = some (.cells (suL s).toArray 72 (0, 0))) := Lib.hid ((hmm.block xb HGM.out.2.2.2.2.2.1 (by have := HGM.out.2.2.1; simpa using this)).trans HX6.out)
   have HRW : Hid (wr.heap[rb]? = some (.cells #[.func (.func 218) #[] #[.pointer (some ⟨tb, 0, none⟩), .pointer (some ⟨w.heap.size, 0, none⟩), .pointer (some ⟨rb, 0, none⟩)]] 271 (0, 0))) := Lib.hid ((hmm.block rb HGM.out.2.2.2.2.2.2 (by have := HGM.out.2.2.2.1; simpa using this)).trans HRB.out)
   clear hbw hnm hmm
   by_cases hlt : i < P
   ·have hi6 : (i : Int) < 6 := by omega
    have hc0 := cellOf HXW.out (3 + i) (v := .int .u32 (((i + 1 : Nat)) : Int)) (by rw [List.getElem?_toArray, suL_pg s (by omega), HPG.out i hlt])
    have ct := cellOf HTW.out 0 rfl
    have cq := cellOf HNW.out.1 0 rfl
    obtain ⟨cm, fm⟩ := HNW.out.2.1.cell (j := i + 1) (c := 0) (by rw [ctK_get (by omega) (by omega), if_neg (by omega)])
    have hii : (((i + 1 : Nat)) : Int) = (i : Int) + 1 := by omega
    rw [hii] at hc0
    have him : (i : Int) + 1 < (m : Int) := by omega
    have htn : ((i : Int) + 1).toNat = i + 1 := by omega
    clear hii
    go_wp2_with fail
    go_roundw
    case rel => exact ⟨i + 1, by omega, by go_num, HBW.out.setCell (p := ⟨gm, i + 1, none⟩) HGM.out.1 _, by rw [← ctK_set (by omega)]; exact HNW.out.inc (i + 1) 1, HMM.out.setCell (p := ⟨gm, i + 1, none⟩) (List.mem_singleton.2 rfl) _⟩
    case measure => simp [Go.RowKit.intOf]; omega
   ·obtain rfl : i = P := by omega
    have d9 := cellOf HXW.out 9 (v := .int .u32 (0 : Int)) (by have e : (suL s).toArray[9]? = some (.int .u32 ((s.top : Nat) : Int)) := rfl; rw [HRT.out.1] at e; exact e)
    have d10 := cellOf HXW.out 10 (v := .int .u32 (0 : Int)) (by have e : (suL s).toArray[10]? = some (.int .u32 ((s.base : Nat) : Int)) := rfl; rw [HRT.out.2.1] at e; exact e)
    have d11 := cellOf HXW.out 11 (v := .int .u32 (0 : Int)) (by have e : (suL s).toArray[11]? = some (.int .u32 ((s.stage : Nat) : Int)) := rfl; rw [HRT.out.2.2] at e; exact e)
    go_wp2_with fail
    clear d9 d10 d11
    obtain ⟨ya, hya⟩ : ∃ W, wr.alloc (.cells #[.int .u32 0, .int .u32 0, .int .u32 0] 22) = W := ⟨_, rfl⟩
    have hby : Below wr.heap.size wr ya := by rw [← hya]; exact balloc (Below.refl _ _) _
    have HYL : Hid (ya.heap[wr.heap.size]? = some (.cells #[.int .u32 0, .int .u32 0, .int .u32 0] 22 (0, 0))) := Lib.hid (by rw [← hya]; exact heap_alloc_new _ _)
    have HNY := Lib.hid (HNW.out.below hby)
    have HTY : Hid (ya.cell? ⟨tb, 0, none⟩ = some (.pointer (some ⟨q, 0, none⟩))) := Lib.hid (cellOf ((hby.block _ (Array.getElem?_eq_some_iff.1 HTW.out).1).trans HTW.out) 0 rfl)
    have HRY : Hid (ya.cell? ⟨rb, 0, none⟩ = some (.func (.func 218) #[] #[.pointer (some ⟨tb, 0, none⟩), .pointer (some ⟨w.heap.size, 0, none⟩), .pointer (some ⟨rb, 0, none⟩)])) := Lib.hid (cellOf ((hby.block _ (Array.getElem?_eq_some_iff.1 HRW.out).1).trans HRW.out) 0 rfl)
    have HBY := Lib.hid (bthn HBW.out hby)
    rw [hya]
    clear hya hby
    go_loopw [62] (fun v wy => ∃ j : Nat, j ≤ 3 ∧ v = .int .i64 (j : Int) ∧ ya = wy) (fun v _ => 3 - (Go.RowKit.intOf v).toNat)
    case atStart => exact ⟨0, by omega, rfl, rfl⟩
    case round =>
     obtain ⟨j, hj, rfl, rfl⟩ := hrel
     by_cases hlj : j < 3
     ·have cl := cellOf HYL.out j (v := .int .u32 (0 : Int)) (by rcases (show j = 0 ∨ j = 1 ∨ j = 2 by omega) with rfl | rfl | rfl <;> rfl)
      have cr := HRY.out
      have CZ := reach_zero ya (.pointer (some ⟨tb, 0, none⟩)) (.pointer (some ⟨w.heap.size, 0, none⟩)) (.pointer (some ⟨rb, 0, none⟩))
      have hj3 : (j : Int) < 3 := by omega
      go_wp2_with fail
      refine CZ.mono ?_
      rintro e y2 ⟨rfl, rfl⟩
      clear CZ cl cr
      go_wp2_with fail
      go_roundw
      case rel => exact ⟨j + 1, by omega, by go_num, trivial⟩
      case measure => simp [Go.RowKit.intOf]; omega
     ·obtain rfl : j = 3 := by omega
      have cty := HTY.out
      go_wp2_with fail
      go_ret
      exact ⟨q, gm, gd, mp, rfl, HNY.out, HBY.out⟩
end Go.Proofs.YtgmahhdnjikdjaaGreat
