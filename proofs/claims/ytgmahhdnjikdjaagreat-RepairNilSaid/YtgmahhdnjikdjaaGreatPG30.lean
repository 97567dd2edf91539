import Derived.Test.YtgmahhdnjikdjaaGreatPG29
set_option linter.unusedVariables false
set_option linter.unusedSimpArgs false
/- RepairNil, walked. -/
namespace Go.Proofs.YtgmahhdnjikdjaaGreat
open Go.RowKit Wire
set_option linter.unusedVariables false
set_option linter.unusedSimpArgs false
set_option maxRecDepth 100000 in
set_option maxHeartbeats 25600000 in
theorem repairNil_walk (w : World) : Calls Tryz.prog 5 #[] w fun e w' => e = .returned (.bool true) ∧ Below w.heap.size w w' := by
 have CN : Calls Tryz.prog 21 #[.int .i64 400] w fun e w' => ∃ B iv, e = .returned (.tuple #[.pointer (some ⟨B, 0, none⟩), .int .i64 0]) ∧ DkAt w.heap.size w' B iv (.slice none 0 0) (dk0 400) ∧ Below w.heap.size w w' := dknew_at w 400 (by omega) (by omega)
 have CN2 : Hid (∀ X, Calls Tryz.prog 21 #[.int .i64 40] X fun e w' => ∃ B iv, e = .returned (.tuple #[.pointer (some ⟨B, 0, none⟩), .int .i64 0]) ∧ DkAt X.heap.size w' B iv (.slice none 0 0) (dk0 40) ∧ Below X.heap.size X w') := Lib.hid (fun X => dknew_at X 40 (by omega) (by omega))
 obtain ⟨SA, hSA⟩ : ∃ L, suL sA = L := ⟨_, rfl⟩
 obtain ⟨SX, hSX⟩ : ∃ L, suL sX = L := ⟨_, rfl⟩
 have HSA := Lib.hid hSA
 have HSX := Lib.hid hSX
 have HA19 : Hid (SA.length = 19) := Lib.hid (by rw [← hSA]; rfl)
 have HX19 : Hid (SX.length = 19) := Lib.hid (by rw [← hSX]; rfl)
 have HA1 : Hid (∀ u ∈ SA, u.oneCell' = true) := Lib.hid (by rw [← hSA]; exact suL_one sA)
 clear hSA hSX
 go_enter Tryz.func5, Tryz.ntmps5
 go_wp2_with fail
 refine CN.mono ?_
 rintro e w1 ⟨B, iv, rfl, hd1, hb1⟩
 dsimp only
 have HB1 := Lib.hid hb1
 have HD1 := Lib.hid hd1
 have C := CN2.out w1
 clear CN hd1 hb1
 go_wp2_with fail
 refine C.mono ?_
 rintro e w2 ⟨Bo, ivo, rfl, ho2, hb2⟩
 dsimp only
 have HB2 := Lib.hid (bthn HB1.out hb2)
 have HD2 := Lib.hid (HD1.out.below hb2)
 have HO2 := Lib.hid ho2
 have HAP : Hid ((∀ k ∈ dF B iv (.slice none 0 0), w.heap.size ≤ k ∧ k < w1.heap.size) ∧ (∀ k ∈ dF Bo ivo (.slice none 0 0), w1.heap.size ≤ k ∧ k < w2.heap.size)) := Lib.hid ⟨fun k hk => HD1.out.inF k hk, fun k hk => HO2.out.inF k hk⟩
 clear C CN2 ho2 hb2
 have C := format_d w.heap.size w2 B iv HD2.out HB2.out.size
 go_wp2_with fail
 refine C.mono ?_
 rintro e w3 ⟨rfl, hd3, hc3⟩
 dsimp only
 have HD3 := Lib.hid hd3
 have HO3 := Lib.hid (HO2.out.kept hc3 (fun k hk hh => by have h1 := (HAP.out.2 k hk).1; have h2 := (HAP.out.1 k hh).2; omega))
 have HB3 := Lib.hid (HB2.out.trans (hc3.below (fun k hk => (HAP.out.1 k hk).1) HB2.out.size))
 have HG3 : Hid (w1.heap.size ≤ w3.heap.size) := Lib.hid (by have h1 := hc3.size; have h2 := (HAP.out.2 Bo (List.mem_cons_self ..)); omega)
 clear C hd3 hc3
 have C := look_o w1.heap.size w3 Bo ivo _ HO3.out
 go_wp2_with fail
 refine C.mono ?_
 rintro e x4 ⟨rfl, hb⟩
 dsimp only
 obtain ⟨b4, hq⟩ : ∃ b, x4.heap.size = b := ⟨_, rfl⟩
 obtain ⟨m4, hy⟩ : ∃ W, x4.alloc (.cells #[.bool false, .slice none 0 0, .slice none 0 0] 56) = W := ⟨_, rfl⟩
 have hxm : m4.heap[b4]? = some (.cells #[.bool false, .slice none 0 0, .slice none 0 0] 56 (0, 0)) := by rw [← hy, ← hq]; exact heap_alloc_new _ _
 have k0 := cellOf hxm 0 (v := .bool false) rfl
 have k1 := cellOf hxm 1 (v := .slice none 0 0) rfl
 have k2 := cellOf hxm 2 (v := .slice none 0 0) rfl
 have g0 := frozenOf hxm 0
 have g1 := frozenOf hxm 1
 have g2 := frozenOf hxm 2
 obtain ⟨y4, hyz⟩ : ∃ W, ((m4.setCell ⟨b4, 0, none⟩ (.bool false)).setCell ⟨b4, 1, none⟩ (.slice none 0 0)).setCell ⟨b4, 2, none⟩ (.slice none 0 0) = W := ⟨_, rfl⟩
 have hbx : Below w3.heap.size w3 y4 := by
  have h1 : Below w3.heap.size w3 m4 := bthn hb (by rw [← hy]; exact balloc (Below.refl _ _) _)
  have hg : w3.heap.size ≤ b4 := by rw [← hq]; exact hb.size
  rw [← hyz]
  exact ((h1.setCell (p := ⟨b4, 0, none⟩) hg _).setCell (p := ⟨b4, 1, none⟩) hg _).setCell (p := ⟨b4, 2, none⟩) hg _
 clear hxm
 have HB4 := Lib.hid (bthn HB3.out hbx)
 have HO4 := Lib.hid (HO3.out.below hbx)
 have HD4 := Lib.hid (HD3.out.below hbx)
 clear C hb hbx
 have C := rtree_err y4 (some ⟨Bo, 0, none⟩) 6 (by decide) 0 3 (lies_o w1.heap.size y4 Bo ivo _ HO4.out)
 go_wp2_with fail
 (try rw [hy])
 (try rw [hq])
 (try rw [hyz])
 refine C.mono ?_
 rintro e w5 ⟨rfl, hb⟩
 dsimp only
 have HB5 := Lib.hid (bthn HB4.out hb)
 have HO5 := Lib.hid (HO4.out.below hb)
 have HD5 := Lib.hid (HD4.out.below hb)
 clear C hb hy hq hyz k0 k1 k2 g0 g1 g2
 have C := disk_0 w5 none (sec0_nil w5)
 go_wp2_with fail
 refine C.mono ?_
 rintro e x6 ⟨rfl, hb⟩
 dsimp only
 obtain ⟨b6, hq⟩ : ∃ b, x6.heap.size = b := ⟨_, rfl⟩
 obtain ⟨m6, hy⟩ : ∃ W, x6.alloc (.cells #[.bool false, .slice none 0 0, .slice none 0 0] 56) = W := ⟨_, rfl⟩
 have hxm : m6.heap[b6]? = some (.cells #[.bool false, .slice none 0 0, .slice none 0 0] 56 (0, 0)) := by rw [← hy, ← hq]; exact heap_alloc_new _ _
 have k0 := cellOf hxm 0 (v := .bool false) rfl
 have k1 := cellOf hxm 1 (v := .slice none 0 0) rfl
 have k2 := cellOf hxm 2 (v := .slice none 0 0) rfl
 have g0 := frozenOf hxm 0
 have g1 := frozenOf hxm 1
 have g2 := frozenOf hxm 2
 obtain ⟨y6, hyz⟩ : ∃ W, ((m6.setCell ⟨b6, 0, none⟩ (.bool false)).setCell ⟨b6, 1, none⟩ (.slice none 0 0)).setCell ⟨b6, 2, none⟩ (.slice none 0 0) = W := ⟨_, rfl⟩
 have hbx : Below w5.heap.size w5 y6 := by
  have h1 : Below w5.heap.size w5 m6 := bthn hb (by rw [← hy]; exact balloc (Below.refl _ _) _)
  have hg : w5.heap.size ≤ b6 := by rw [← hq]; exact hb.size
  rw [← hyz]
  exact ((h1.setCell (p := ⟨b6, 0, none⟩) hg _).setCell (p := ⟨b6, 1, none⟩) hg _).setCell (p := ⟨b6, 2, none⟩) hg _
 clear hxm
 have HB6 := Lib.hid (bthn HB5.out hbx)
 have HO6 := Lib.hid (HO5.out.below hbx)
 have HD6 := Lib.hid (HD5.out.below hbx)
 clear C hb hbx
 obtain ⟨x7, hx7⟩ : ∃ W, y6.alloc (.cells #[.slice none 0 0, .slice none 0 0, .int .i64 0, .bool false] 67) = W := ⟨_, rfl⟩
 have hb7 : Below y6.heap.size y6 x7 := by rw [← hx7]; exact balloc (Below.refl _ _) _
 have hh7 : x7.heap[y6.heap.size]? = some (.cells #[.slice none 0 0, .slice none 0 0, .int .i64 0, .bool false] 67 (0, 0)) := by rw [← hx7]; exact heap_alloc_new _ _
 have C := rvols_err x7 (some ⟨y6.heap.size, 0, none⟩) 1 (by decide) 0 (lies_0 x7 _ (sec0_box x7 _ hh7))
 have HB7 := Lib.hid (bthn HB6.out hb7)
 have HO7 := Lib.hid (HO6.out.below hb7)
 have HD7 := Lib.hid (HD6.out.below hb7)
 clear hb7 hh7
 go_wp2_with fail
 (try rw [hy])
 (try rw [hq])
 (try rw [hyz])
 (try rw [hx7])
 refine C.mono ?_
 rintro e w8 ⟨rfl, hb⟩
 dsimp only
 have HB8 := Lib.hid (bthn HB7.out hb)
 have HO8 := Lib.hid (HO7.out.below hb)
 have HD8 := Lib.hid (HD7.out.below hb)
 clear C hb hy hx7 hq hyz k0 k1 k2 g0 g1 g2
 have C := rvols_3 w8 _ sA (lies_A w.heap.size w8 B iv _ HD8.out)
 go_wp2_with fail
 refine C.mono ?_
 rintro e w9 ⟨rfl, hb⟩
 dsimp only
 have HB9 := Lib.hid (bthn HB8.out hb)
 have HO9 := Lib.hid (HO8.out.below hb)
 have HD9 := Lib.hid (HD8.out.below hb)
 clear C hb
 have C := load_A w.heap.size w9 B iv _ HD9.out
 rw [HSA.out] at C
 go_wp2_with fail
 refine C.mono ?_
 rintro e w10 ⟨rfl, hb⟩
 dsimp only
 have HB10 := Lib.hid (bthn HB9.out hb)
 have HO10 := Lib.hid (HO9.out.below hb)
 have HD10 := Lib.hid (HD9.out.below hb)
 clear C hb
 have hss : SA.toArray.size = 19 := by rw [List.size_toArray, HA19.out]
 repeat (first
  | (refine wpList_store_mid rfl 72 _ _ rfl w10.heap.size 0 SA.toArray rfl rfl (thereOf (heap_alloc_new w10 _) (by rw [hss]; simp)) (by rw [hss]; exact infoSup) (Array.all_eq_true_iff_forall_mem.2 (fun v hv => HA1.out v (by simpa using hv))) ?_; refine Hid.out ?_)
  | go_step)
 refine Lib.hid ?_
 simp only [List.toList_toArray]
 obtain ⟨y10, hy⟩ : ∃ W, (w10.alloc (.cells #[.int .u64 0, .int .i64 0, .int .i64 0, .int .u32 0, .int .u32 0, .int .u32 0, .int .u32 0, .int .u32 0, .int .u32 0, .int .u32 0, .int .u32 0, .int .u32 0, .int .i64 0, .int .u64 0, .int .u64 0, .int .u64 0, .int .u64 0, .int .u64 0, .bool false] 72)).setCells w10.heap.size 0 SA = W := ⟨_, rfl⟩
 obtain ⟨xb, hxb⟩ : ∃ x, w10.heap.size = x := ⟨_, rfl⟩
 have HX10 : Hid (y10.heap[xb]? = some (.cells SA.toArray 72 (0, 0))) := Lib.hid (by rw [← hy, ← hxb]; exact sets_all (heap_alloc_new _ _) (by rw [HA19.out]; rfl))
 have hbx : Below w10.heap.size w10 y10 := by rw [← hy]; exact belowSets (Nat.le_refl _) _ _ _ (balloc (Below.refl _ _) _)
 have HB11 := Lib.hid (bthn HB10.out hbx)
 have HO11 := Lib.hid (HO10.out.below hbx)
 have HD11 := Lib.hid (HD10.out.below hbx)
 have HGX : Hid (w.heap.size ≤ xb) := Lib.hid (by have h1 := HB10.out.size; omega)
 have HXB : Hid (xb ∉ dF Bo ivo (.slice none 0 0) ∧ xb ∉ dF B iv (.slice none 0 0)) := Lib.hid ⟨fun hh => by have h1 := (HO10.out.inF xb hh).2; omega, fun hh => by have h1 := (HD10.out.inF xb hh).2; omega⟩
 have HG11 : Hid (w1.heap.size ≤ y10.heap.size) := Lib.hid (by have h1 := (HO11.out.inF Bo (List.mem_cons_self ..)); have h2 := HO11.out.ge; omega)
 rw [hy, hxb]
 clear hy hxb hss hbx
 have HRA : Hid (y10.rangeAt xb 0 SA) := Lib.hid (rangeOf HX10.out)
 have HIA : Hid ((Tryz.prog.info? 72).map (·.size) = some SA.length) := Lib.hid (by rw [HA19.out]; exact infoSup)
 have C := save_o w1.heap.size y10 Bo ivo HO11.out HG11.out
 rw [HSA.out] at C
 go_wp2_with (refine wpList_load_mid rfl 72 _ rfl xb 0 rfl SA _ HRA.out Tryz.underlying72 rfl HIA.out ?_)
 refine C.mono ?_
 rintro e w12 ⟨rfl, ho, hc⟩
 dsimp only
 have HO12 := Lib.hid ho
 have HD12 := Lib.hid (HD11.out.kept hc (fun k hk hh => by have h1 := (HAP.out.2 k hh).1; have h2 := (HAP.out.1 k hk).2; omega))
 have HX12 : Hid (w12.heap[xb]? = some (.cells SA.toArray 72 (0, 0))) := Lib.hid ((hc.1.block _ (Array.getElem?_eq_some_iff.1 HX10.out).1 HXB.out.1).trans HX10.out)
 have HB12 := Lib.hid (HB11.out.trans (hc.below (fun k hk => by have h1 := (HAP.out.2 k hk).1; have h2 := HB1.out.size; omega) HB11.out.size))
 clear C ho hc
 have C := disk_O w1.heap.size w12 Bo ivo _ HO12.out
 go_wp2_with fail
 refine C.mono ?_
 rintro e x13 ⟨rfl, hb⟩
 dsimp only
 obtain ⟨b13, hq⟩ : ∃ b, x13.heap.size = b := ⟨_, rfl⟩
 obtain ⟨m13, hy⟩ : ∃ W, x13.alloc (.cells #[.bool false, .slice none 0 0, .slice none 0 0] 56) = W := ⟨_, rfl⟩
 have hxm : m13.heap[b13]? = some (.cells #[.bool false, .slice none 0 0, .slice none 0 0] 56 (0, 0)) := by rw [← hy, ← hq]; exact heap_alloc_new _ _
 have k0 := cellOf hxm 0 (v := .bool false) rfl
 have k1 := cellOf hxm 1 (v := .slice none 0 0) rfl
 have k2 := cellOf hxm 2 (v := .slice none 0 0) rfl
 have g0 := frozenOf hxm 0
 have g1 := frozenOf hxm 1
 have g2 := frozenOf hxm 2
 obtain ⟨y13, hyz⟩ : ∃ W, ((m13.setCell ⟨b13, 0, none⟩ (.bool false)).setCell ⟨b13, 1, none⟩ (.slice none 0 0)).setCell ⟨b13, 2, none⟩ (.slice none 0 0) = W := ⟨_, rfl⟩
 have hbx : Below w12.heap.size w12 y13 := by
  have h1 : Below w12.heap.size w12 m13 := bthn hb (by rw [← hy]; exact balloc (Below.refl _ _) _)
  have hg : w12.heap.size ≤ b13 := by rw [← hq]; exact hb.size
  rw [← hyz]
  exact ((h1.setCell (p := ⟨b13, 0, none⟩) hg _).setCell (p := ⟨b13, 1, none⟩) hg _).setCell (p := ⟨b13, 2, none⟩) hg _
 clear hxm
 have HB13 := Lib.hid (bthn HB12.out hbx)
 have HD13 := Lib.hid (HD12.out.below hbx)
 have hx13 := (hbx.block _ (Array.getElem?_eq_some_iff.1 HX12.out).1).trans HX12.out
 clear C hb hbx
 have c0 : y13.cell? ⟨xb, 0, none⟩ = some (.int .u64 1) := cellOf hx13 0 (by rw [← HSA.out]; rfl)
 have f0 := frozenOf hx13 0
 obtain ⟨z, hz⟩ : ∃ W, y13.setCell ⟨xb, 0, none⟩ (.int .u64 4611686018427387904) = W := ⟨_, rfl⟩
 have HXZ : Hid (z.heap[xb]? = some (.cells SX.toArray 72 (0, 0))) := Lib.hid (by
  have h1 := setOf hx13 0 (.int .u64 4611686018427387904)
  rw [hz, ← HSA.out, suA_suX, HSX.out] at h1
  exact h1)
 have hcz : Chg [xb] y13 z [xb] := ⟨by rw [← hz]; exact (Mods.refl [xb] y13).setCell (p := ⟨xb, 0, none⟩) (List.mem_singleton.2 rfl) _, fun k hk => .inl hk⟩
 have HDZ := Lib.hid (HD13.out.kept hcz (fun k hk hh => by rw [List.mem_singleton.1 hh] at hk; exact HXB.out.2 hk))
 have HBZ := Lib.hid (HB13.out.trans (hcz.below (fun k hk => by rw [List.mem_singleton.1 hk]; exact HGX.out) HB13.out.size))
 clear hx13 hcz
 have HRX : Hid (z.rangeAt xb 0 SX) := Lib.hid (rangeOf HXZ.out)
 have HIX : Hid ((Tryz.prog.info? 72).map (·.size) = some SX.length) := Lib.hid (by rw [HX19.out]; exact infoSup)
 have C := save_d w.heap.size z B iv HDZ.out HBZ.out.size
 rw [HSX.out] at C
 go_wp2_with (refine wpList_load_mid rfl 72 _ rfl xb 0 rfl SX _ HRX.out Tryz.underlying72 rfl HIX.out ?_)
 refine C.mono ?_
 rintro e w16 ⟨rfl, hd, hc⟩
 dsimp only
 have HD16 := Lib.hid hd
 have HB16 := Lib.hid (HBZ.out.trans (hc.below (fun k hk => (HAP.out.1 k hk).1) HBZ.out.size))
 clear C hd hc c0 f0 hy hz hq hyz k0 k1 k2 g0 g1 g2
 have C := look_X w.heap.size w16 B iv HD16.out
 go_wp2_with fail
 refine C.mono ?_
 rintro e x17 ⟨rfl, hb⟩
 dsimp only
 obtain ⟨b17, hq⟩ : ∃ b, x17.heap.size = b := ⟨_, rfl⟩
 obtain ⟨m17, hy⟩ : ∃ W, x17.alloc (.cells #[.bool false, .slice none 0 0, .slice none 0 0] 56) = W := ⟨_, rfl⟩
 have hxm : m17.heap[b17]? = some (.cells #[.bool false, .slice none 0 0, .slice none 0 0] 56 (0, 0)) := by rw [← hy, ← hq]; exact heap_alloc_new _ _
 have k0 := cellOf hxm 0 (v := .bool false) rfl
 have k1 := cellOf hxm 1 (v := .slice none 0 0) rfl
 have k2 := cellOf hxm 2 (v := .slice none 0 0) rfl
 have g0 := frozenOf hxm 0
 have g1 := frozenOf hxm 1
 have g2 := frozenOf hxm 2
 obtain ⟨y17, hyz⟩ : ∃ W, ((m17.setCell ⟨b17, 0, none⟩ (.bool false)).setCell ⟨b17, 1, none⟩ (.slice none 0 0)).setCell ⟨b17, 2, none⟩ (.slice none 0 0) = W := ⟨_, rfl⟩
 have hbx : Below w16.heap.size w16 y17 := by
  have h1 : Below w16.heap.size w16 m17 := bthn hb (by rw [← hy]; exact balloc (Below.refl _ _) _)
  have hg : w16.heap.size ≤ b17 := by rw [← hq]; exact hb.size
  rw [← hyz]
  exact ((h1.setCell (p := ⟨b17, 0, none⟩) hg _).setCell (p := ⟨b17, 1, none⟩) hg _).setCell (p := ⟨b17, 2, none⟩) hg _
 clear hxm
 have HB17 := Lib.hid (bthn HB16.out hbx)
 have HD17 := Lib.hid (HD16.out.below hbx)
 clear C hb hbx
 have C := write_d w.heap.size y17 B iv HD17.out HB17.out.size
 obtain ⟨ZB, hZB⟩ : ∃ L, (bV (zeros 256)).toArray = L := ⟨_, rfl⟩
 have HZB : Hid (Tryz.prog.built 78 [] = some ZB) := Lib.hid (by rw [← hZB]; exact blkZ_built)
 rw [hZB] at C
 clear hZB
 go_upto_region 18 with fail
 (try rw [hy])
 (try rw [hq])
 (try rw [hyz])
 clear hy hq hyz k0 k1 k2 g0 g1 g2
 apply wp_region_lit
 repeat (first
  | (refine wpL_build0 (by kernel_rfl) 78 rfl ZB HZB.out ?_)
  | go_step)
 refine C.mono ?_
 rintro e w18 ⟨rfl, jv, hd, hc⟩
 dsimp only
 have HD18 := Lib.hid hd
 have HB18 := Lib.hid (HB17.out.trans (hc.below (fun k hk => (HAP.out.1 k hk).1) HB17.out.size))
 clear C hd hc
 have C := disk_Y w.heap.size w18 B iv jv HD18.out
 go_wp2_with fail
 refine C.mono ?_
 rintro e x19 ⟨rfl, hb⟩
 dsimp only
 obtain ⟨b19, hq⟩ : ∃ b, x19.heap.size = b := ⟨_, rfl⟩
 obtain ⟨m19, hy⟩ : ∃ W, x19.alloc (.cells #[.bool false, .slice none 0 0, .slice none 0 0] 56) = W := ⟨_, rfl⟩
 have hxm : m19.heap[b19]? = some (.cells #[.bool false, .slice none 0 0, .slice none 0 0] 56 (0, 0)) := by rw [← hy, ← hq]; exact heap_alloc_new _ _
 have k0 := cellOf hxm 0 (v := .bool false) rfl
 have k1 := cellOf hxm 1 (v := .slice none 0 0) rfl
 have k2 := cellOf hxm 2 (v := .slice none 0 0) rfl
 have g0 := frozenOf hxm 0
 have g1 := frozenOf hxm 1
 have g2 := frozenOf hxm 2
 obtain ⟨y19, hyz⟩ : ∃ W, ((m19.setCell ⟨b19, 0, none⟩ (.bool false)).setCell ⟨b19, 1, none⟩ (.slice none 0 0)).setCell ⟨b19, 2, none⟩ (.slice none 0 0) = W := ⟨_, rfl⟩
 have hbx : Below w18.heap.size w18 y19 := by
  have h1 : Below w18.heap.size w18 m19 := bthn hb (by rw [← hy]; exact balloc (Below.refl _ _) _)
  have hg : w18.heap.size ≤ b19 := by rw [← hq]; exact hb.size
  rw [← hyz]
  exact ((h1.setCell (p := ⟨b19, 0, none⟩) hg _).setCell (p := ⟨b19, 1, none⟩) hg _).setCell (p := ⟨b19, 2, none⟩) hg _
 clear hxm
 have HB19 := Lib.hid (bthn HB18.out hbx)
 clear C hb hbx
 have C := known31 y19
 go_wp2_with fail
 (try rw [hy])
 (try rw [hq])
 (try rw [hyz])
 refine C.mono ?_
 rintro e w20 ⟨rfl, hb⟩
 have HB20 := Lib.hid (bthn HB19.out hb)
 clear C hb hy hq hyz k0 k1 k2 g0 g1 g2
 go_wp2_with fail
 go_ret
 exact ⟨rfl, HB20.out⟩
end Go.Proofs.YtgmahhdnjikdjaaGreat
