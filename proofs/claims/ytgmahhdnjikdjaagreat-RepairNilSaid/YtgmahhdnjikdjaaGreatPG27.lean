import Derived.Test.YtgmahhdnjikdjaaGreatPG25
set_option linter.unusedVariables false
set_option linter.unusedSimpArgs false
/- thin.sound and Open of a pool without trees, check.Disk, repair.fine; walked. -/
namespace Go.Proofs.YtgmahhdnjikdjaaGreat
open Go.RowKit Wire
set_option linter.unusedVariables false
set_option linter.unusedSimpArgs false
/-- What store.Open answers of a pool that opens. -/
def OpenX (w : World) (B : Nat) (s : Su) (A D : M) (e : Ending) (w' : World) : Prop := ∃ S pm pd mf md Fm Fd, e = .returned (.tuple #[.pointer (some ⟨S, 0, none⟩), .int .i64 0]) ∧ StB w' S B pm pd mf md s A D Fm Fd false ∧ Below w.heap.size w w'
def aX : M := ⟨ctK 60 (pagesN 60 + pagesN 8), ctK 60 (pagesN 60 + pagesN 8), 0, 0⟩
def bX : M := ⟨List.replicate 8 0, List.replicate 8 0, 0, 0⟩
theorem openX_call (n0 : Nat) (w : World) (B : Nat) (iv jv : Value) (h : DkAt n0 w B iv jv dX) : Calls Tryz.prog 48 #[.pointer (some ⟨B, 0, none⟩)] w (OpenX w B sX aX bX) := by
 have ok := okA
 refine (sopen_at n0 w B iv jv dX h sX 60 8 _ _ dX_ok (by rw [dX_len]; omega) slX _ dX_slots slX_tx slX_best).mono ?_
 rintro e w' ⟨S, pm, pd, mf, md, Fm, Fd, he, h1, h2, h3, h4, h5, h7, h8, h9, h10, h11, h12, h13, h14⟩
 refine ⟨S, pm, pd, mf, md, Fm, Fd, he, ⟨h1, h2, h3, area0 dX_ok.ml (by omega) (by omega) dX_ok.mc, area0 dX_ok.dl (by omega) (by omega) dX_ok.dc, ?_, ?_, sX_wf⟩, h8⟩
 ·show ((ctK 60 _).length : Int) = ((60 : Nat) : Int)
  rw [ctK_len (by rw [p2]; omega)]
 ·show ((List.replicate 8 0).length : Int) = ((8 : Nat) : Int)
  rw [List.length_replicate]
theorem openY_call (n0 : Nat) (w : World) (B : Nat) (iv jv : Value) (h : DkAt n0 w B iv jv dY) : Calls Tryz.prog 48 #[.pointer (some ⟨B, 0, none⟩)] w fun e w' => e = .returned (.tuple #[.pointer none, .int .i64 14]) ∧ Below w.heap.size w w' :=
 sopen_bad n0 w B iv jv dY h sX 60 8 dX_ok.sm dX_ok.sk (by omega) (by omega) dX_ok.p6 (by rw [dY_len]; omega) (by rw [sX_pg0]; omega) (by rw [dY_len]; omega) (by rw [sX_pg0]; exact dY_page) slX _ dY_slots slX_tx slX_best (by show 4611686018427387904 ≠ 0; omega)
set_option maxRecDepth 100000 in
set_option maxHeartbeats 6400000 in
theorem sound_0 {w : World} {S B pm pd mf md : Nat} {s : Su} {A D : M} {Fm Fd : List Nat} (h : StB w S B pm pd mf md s A D Fm Fd false) : Calls Tryz.prog 183 #[.pointer (some ⟨S, 0, none⟩), .int .u32 0] w fun e w' => e = .returned (.int .i64 0) ∧ Below w.heap.size w w' := by
 have C1 := tcheck_0 h 3
 have CV : Hid (∀ X, Below w.heap.size w X → Calls Tryz.prog 14 #[.pointer (some ⟨S, 0, none⟩), .int .u32 0] X fun e w' => e = .returned (.tuple #[.slice none 0 0, .int .i64 0]) ∧ Below X.heap.size X w') := Lib.hid (fun X hX => vall_nil X _ ⟨_, rfl⟩ 0 0 (tall_0 (h.below hX) 0))
 clear h
 go_enter Tryz.func183, Tryz.ntmps183
 go_wp2_with fail
 refine C1.mono ?_
 rintro e w1 ⟨rfl, hb1⟩
 have HB1 := Lib.hid hb1
 have C2 := CV.out w1 hb1
 clear C1 hb1
 go_wp2_with fail
 refine C2.mono ?_
 rintro e w2 ⟨rfl, hb2⟩
 dsimp only
 have HB2 := Lib.hid (bthn HB1.out hb2)
 clear C2 hb2
 go_wp2_with fail
 go_loopw [32] (fun v wr => v = .int .i64 0 ∧ w2 = wr) (fun _ _ => 0)
 case atStart => exact ⟨rfl, rfl⟩
 case round =>
  obtain ⟨rfl, rfl⟩ := hrel
  go_wp2_with fail
  go_ret
  exact ⟨rfl, HB2.out⟩
set_option maxRecDepth 100000 in
set_option maxHeartbeats 12800000 in
theorem topen_at (w : World) (B : Nat) (s : Su) (A D : M) (hr : s.top = 0 ∧ s.base = 0 ∧ s.stage = 0) (hc : Calls Tryz.prog 48 #[.pointer (some ⟨B, 0, none⟩)] w (OpenX w B s A D)) :
  Calls Tryz.prog 147 #[.pointer (some ⟨B, 0, none⟩)] w fun e w' => ∃ P, e = .returned (.tuple #[.pointer (some ⟨P, 0, none⟩), .int .i64 0]) ∧ Below w.heap.size w w' := by
 obtain ⟨SL, hSL⟩ : ∃ L, suL s = L := ⟨_, rfl⟩
 have HSL := Lib.hid hSL
 have HS19 : Hid (SL.length = 19) := Lib.hid (by rw [← hSL]; rfl)
 have HS1 : Hid (∀ u ∈ SL, u.oneCell' = true) := Lib.hid (by rw [← hSL]; exact suL_one s)
 have HRT : Hid (SL[9]? = some (.int .u32 0) ∧ SL[10]? = some (.int .u32 0) ∧ SL[11]? = some (.int .u32 0)) := Lib.hid (by
  rw [← hSL]
  refine ⟨?_, ?_, ?_⟩
  ·show some (Value.int .u32 (s.top : Int)) = _; rw [hr.1]; rfl
  ·show some (Value.int .u32 (s.base : Int)) = _; rw [hr.2.1]; rfl
  ·show some (Value.int .u32 (s.stage : Int)) = _; rw [hr.2.2]; rfl)
 have hss : SL.toArray.size = 19 := by rw [List.size_toArray, HS19.out]
 clear hSL hr
 go_enter Tryz.func147, Tryz.ntmps147
 go_wp2_with fail
 refine hc.mono ?_
 rintro e w1 ⟨S, pm, pd, mf, md, Fm, Fd, rfl, hst, hb1⟩
 dsimp only
 have CS := ssuper_at hst
 rw [suL_v, HSL.out] at CS
 have HST := Lib.hid hst
 have HB1 := Lib.hid hb1
 clear hc hst hb1
 go_wp2_with fail
 refine CS.mono ?_
 rintro e w2 ⟨rfl, hb2⟩
 dsimp only
 have HB2 := Lib.hid hb2
 clear CS hb2
 repeat (first
  | (refine wpList_store_mid rfl 72 _ _ rfl w2.heap.size 0 SL.toArray rfl rfl (thereOf (heap_alloc_new w2 _) (by rw [hss]; simp)) (by rw [hss]; exact infoSup) (Array.all_eq_true_iff_forall_mem.2 (fun v hv => HS1.out v (by simpa using hv))) ?_; refine Hid.out ?_)
  | go_step)
 refine Lib.hid ?_
 simp only [List.toList_toArray]
 obtain ⟨w3, hw3⟩ : ∃ W, (w2.alloc (.cells #[.int .u64 0, .int .i64 0, .int .i64 0, .int .u32 0, .int .u32 0, .int .u32 0, .int .u32 0, .int .u32 0, .int .u32 0, .int .u32 0, .int .u32 0, .int .u32 0, .int .i64 0, .int .u64 0, .int .u64 0, .int .u64 0, .int .u64 0, .int .u64 0, .bool false] 72)).setCells w2.heap.size 0 SL = W := ⟨_, rfl⟩
 have HB3 : Hid (Below w1.heap.size w1 w3) := Lib.hid (bthn HB2.out (by rw [← hw3]; exact belowSets (Nat.le_refl _) _ _ _ (balloc (Below.refl _ _) _)))
 obtain ⟨xb, hxb⟩ : ∃ x, w2.heap.size = x := ⟨_, rfl⟩
 have HX3 : Hid (w3.heap[xb]? = some (.cells SL.toArray 72 (0, 0))) := Lib.hid (by rw [← hw3, ← hxb]; exact sets_all (heap_alloc_new _ _) (by rw [HS19.out]; rfl))
 rw [hw3, hxb]
 have d9 : w3.cell? ⟨xb, 9, none⟩ = some (.int .u32 0) := cellOf HX3.out 9 (by rw [List.getElem?_toArray]; exact HRT.out.1)
 have d10 : w3.cell? ⟨xb, 10, none⟩ = some (.int .u32 0) := cellOf HX3.out 10 (by rw [List.getElem?_toArray]; exact HRT.out.2.1)
 have d11 : w3.cell? ⟨xb, 11, none⟩ = some (.int .u32 0) := cellOf HX3.out 11 (by rw [List.getElem?_toArray]; exact HRT.out.2.2)
 have CSO : Hid (∀ X, Below w3.heap.size w3 X → Calls Tryz.prog 183 #[.pointer (some ⟨S, 0, none⟩), .int .u32 0] X fun e w' => e = .returned (.int .i64 0) ∧ Below X.heap.size X w') := Lib.hid (fun X hX => sound_0 (HST.out.below (bthn HB3.out hX)))
 clear hw3 hxb hss
 go_wp2_with fail
 clear d9 d10 d11
 go_loopw [27] (fun v wr => ∃ i : Nat, i ≤ 3 ∧ v = .int .i64 (i : Int) ∧ Below w3.heap.size w3 wr) (fun v _ => 3 - (Go.RowKit.intOf v).toNat)
 case atStart => exact ⟨0, by omega, rfl, Below.refl _ _⟩
 case round =>
  obtain ⟨i, hi, rfl, hbr⟩ := hrel
  have HBR := Lib.hid hbr
  clear hbr
  rcases (show i = 0 ∨ i = 1 ∨ i = 2 ∨ i = 3 by omega) with rfl | rfl | rfl | rfl
  ·have hix : ∀ W, (Instr.index 192 (.agg #[.int .u32 0, .int .u32 0, .int .u32 0]) (.int .i64 0)).run Tryz.prog W = .ok (.int .u32 0) W := fun W => by kernel_rfl
   have CT := CSO.out wr HBR.out
   go_wp2_with fail
   refine CT.mono ?_
   rintro e y1 ⟨rfl, hy1⟩
   have HY1 := Lib.hid (bthn HBR.out hy1)
   clear CT hy1
   go_wp2_with fail
   go_roundw
   case rel => exact ⟨1, by omega, rfl, HY1.out⟩
   case measure => simp [Go.RowKit.intOf]
  ·have hix : ∀ W, (Instr.index 192 (.agg #[.int .u32 0, .int .u32 0, .int .u32 0]) (.int .i64 1)).run Tryz.prog W = .ok (.int .u32 0) W := fun W => by kernel_rfl
   have CT := CSO.out wr HBR.out
   go_wp2_with fail
   refine CT.mono ?_
   rintro e y1 ⟨rfl, hy1⟩
   have HY1 := Lib.hid (bthn HBR.out hy1)
   clear CT hy1
   go_wp2_with fail
   go_roundw
   case rel => exact ⟨2, by omega, rfl, HY1.out⟩
   case measure => simp [Go.RowKit.intOf]
  ·have hix : ∀ W, (Instr.index 192 (.agg #[.int .u32 0, .int .u32 0, .int .u32 0]) (.int .i64 2)).run Tryz.prog W = .ok (.int .u32 0) W := fun W => by kernel_rfl
   have CT := CSO.out wr HBR.out
   go_wp2_with fail
   refine CT.mono ?_
   rintro e y1 ⟨rfl, hy1⟩
   have HY1 := Lib.hid (bthn HBR.out hy1)
   clear CT hy1
   go_wp2_with fail
   go_roundw
   case rel => exact ⟨3, by omega, rfl, HY1.out⟩
   case measure => simp [Go.RowKit.intOf]
  ·have HBF : Hid (Below w.heap.size w wr) := Lib.hid (bthn HB1.out (bthn HB3.out HBR.out))
   go_wp2_with fail
   go_ret2
   exact ⟨_, rfl, balloc HBF.out _⟩
theorem topen_bad (w : World) (B : Nat) (er : Int) (he : er ≠ 0) (hc : Calls Tryz.prog 48 #[.pointer (some ⟨B, 0, none⟩)] w fun e w' => e = .returned (.tuple #[.pointer none, .int .i64 er]) ∧ Below w.heap.size w w') :
  Calls Tryz.prog 147 #[.pointer (some ⟨B, 0, none⟩)] w fun e w' => e = .returned (.tuple #[.pointer none, .int .i64 er]) ∧ Below w.heap.size w w' := by
 have hez : (er == 0) = false := by simp [he]
 have hez2 : (er != 0) = true := by simp [he]
 go_enter Tryz.func147, Tryz.ntmps147
 go_wp2_with fail
 refine hc.mono ?_
 rintro e w1 ⟨rfl, hb1⟩
 dsimp only
 have HB1 := Lib.hid hb1
 clear hc hb1
 go_wp2_with fail
 go_ret2
 exact ⟨rfl, HB1.out⟩
set_option maxRecDepth 100000 in
set_option maxHeartbeats 6400000 in
theorem cdisk_X (n0 : Nat) (w : World) (B : Nat) (iv : Value) (h : DkAt n0 w B iv (.slice none 0 0) dX) : Calls Tryz.prog 148 #[.pointer (some ⟨B, 0, none⟩)] w fun e w' => e = .returned (.tuple #[.slice none 0 0, .int .i64 0]) ∧ Below w.heap.size w w' := by
 have CS := dsec_at n0 w B iv _ dX h
 have CC := dcopy_at n0 w B iv dX h rfl (by rw [dX_len]; omega) (by rw [dX_len]; omega)
 rw [dX_len] at CS
 have CO : Hid (∀ X B' iv', DkAt w.heap.size X B' iv' (.slice none 0 0) dX → Calls Tryz.prog 48 #[.pointer (some ⟨B', 0, none⟩)] X (OpenX X B' sX aX bX)) := Lib.hid (fun X B' iv' hX => openX_call _ X B' iv' _ hX)
 have CK : Hid (∀ X S B' pm pd mf md Fm Fd, StB X S B' pm pd mf md sX aX bX Fm Fd false → Calls Tryz.prog 185 #[.pointer (some ⟨S, 0, none⟩)] X fun e w' => e = .returned (.tuple #[.slice none 0 0, .int .i64 0]) ∧ Below X.heap.size X w') := Lib.hid (fun X S B' pm pd mf md Fm Fd hX => cstore_at hX 60 8 _ sX_bare rfl rfl)
 clear h
 go_enter Tryz.func148, Tryz.ntmps148
 go_wp2_with fail
 refine CS.mono ?_
 rintro e w2 ⟨rfl, rfl⟩
 clear CS
 go_wp2_with fail
 refine CC.mono ?_
 rintro e w3 ⟨B', iv', rfl, hd3, hb3⟩
 have C := CO.out w3 B' iv' hd3
 have HB3 := Lib.hid hb3
 clear CC hd3 hb3
 go_wp2_with fail
 refine C.mono ?_
 rintro e w4 ⟨S, pm, pd, mf, md, Fm, Fd, rfl, hst, hb4⟩
 dsimp only
 have C2 := CK.out w4 S B' pm pd mf md Fm Fd hst
 have HB4 := Lib.hid (bthn HB3.out hb4)
 clear C hst hb4
 go_wp2_with fail
 refine C2.mono ?_
 rintro e w5 ⟨rfl, hb5⟩
 dsimp only
 have HB5 := Lib.hid (bthn HB4.out hb5)
 clear C2 hb5
 go_wp2_with fail
 go_ret2
 exact ⟨rfl, HB5.out⟩
theorem cdisk_Y (n0 : Nat) (w : World) (B : Nat) (iv jv : Value) (h : DkAt n0 w B iv jv dY) : Calls Tryz.prog 148 #[.pointer (some ⟨B, 0, none⟩)] w fun e w' => e = .returned (.tuple #[.slice none 0 0, .int .i64 14]) ∧ Below w.heap.size w w' := by
 have CS := dsec_at n0 w B iv _ dY h
 have CC := dcopy_jr n0 w B iv jv dY h (by decide) (by rw [dY_len]; omega) (by rw [dY_len]; omega)
 rw [dY_len] at CS
 have CO : Hid (∀ X B' iv' jv', DkAt w.heap.size X B' iv' jv' dY → Calls Tryz.prog 48 #[.pointer (some ⟨B', 0, none⟩)] X fun e w' => e = .returned (.tuple #[.pointer none, .int .i64 14]) ∧ Below X.heap.size X w') := Lib.hid (fun X B' iv' jv' hX => openY_call _ X B' iv' jv' hX)
 clear h
 go_enter Tryz.func148, Tryz.ntmps148
 go_wp2_with fail
 refine CS.mono ?_
 rintro e w2 ⟨rfl, rfl⟩
 clear CS
 go_wp2_with fail
 refine CC.mono ?_
 rintro e w3 ⟨B', iv', jv', rfl, hd3, hb3⟩
 have C := CO.out w3 B' iv' jv' hd3
 have HB3 := Lib.hid hb3
 clear CC hd3 hb3
 go_wp2_with fail
 refine C.mono ?_
 rintro e w4 ⟨rfl, hb4⟩
 dsimp only
 have HB4 := Lib.hid (bthn HB3.out hb4)
 clear C hb4
 go_wp2_with fail
 go_ret2
 exact ⟨rfl, HB4.out⟩
set_option maxRecDepth 100000 in
set_option maxHeartbeats 6400000 in
theorem fine_X (n0 : Nat) (w : World) (B : Nat) (iv : Value) (h : DkAt n0 w B iv (.slice none 0 0) dX) : Calls Tryz.prog 105 #[.pointer (some ⟨B, 0, none⟩)] w fun e w' => e = .returned (.bool true) ∧ Below w.heap.size w w' := by
 have C1 := topen_at w B sX aX bX sX_bare.rt (openX_call n0 w B iv _ h)
 have CD : Hid (∀ X, Below w.heap.size w X → Calls Tryz.prog 148 #[.pointer (some ⟨B, 0, none⟩)] X fun e w' => e = .returned (.tuple #[.slice none 0 0, .int .i64 0]) ∧ Below X.heap.size X w') := Lib.hid (fun X hX => cdisk_X n0 X B iv (h.below hX))
 clear h
 go_enter Tryz.func105, Tryz.ntmps105
 go_wp2_with fail
 refine C1.mono ?_
 rintro e w1 ⟨P, rfl, hb1⟩
 dsimp only
 have C2 := CD.out w1 hb1
 have HB1 := Lib.hid hb1
 clear C1 hb1
 go_wp2_with fail
 refine C2.mono ?_
 rintro e w2 ⟨rfl, hb2⟩
 dsimp only
 have HB2 := Lib.hid (bthn HB1.out hb2)
 clear C2 hb2
 go_wp2_with fail
 go_ret
 exact ⟨rfl, HB2.out⟩
theorem fine_Y (n0 : Nat) (w : World) (B : Nat) (iv jv : Value) (h : DkAt n0 w B iv jv dY) : Calls Tryz.prog 105 #[.pointer (some ⟨B, 0, none⟩)] w fun e w' => e = .returned (.bool false) ∧ Below w.heap.size w w' := by
 have C1 := topen_bad w B 14 (by decide) (openY_call n0 w B iv jv h)
 have CD : Hid (∀ X, Below w.heap.size w X → Calls Tryz.prog 148 #[.pointer (some ⟨B, 0, none⟩)] X fun e w' => e = .returned (.tuple #[.slice none 0 0, .int .i64 14]) ∧ Below X.heap.size X w') := Lib.hid (fun X hX => cdisk_Y n0 X B iv jv (h.below hX))
 clear h
 go_enter Tryz.func105, Tryz.ntmps105
 go_wp2_with fail
 refine C1.mono ?_
 rintro e w1 ⟨rfl, hb1⟩
 dsimp only
 have C2 := CD.out w1 hb1
 have HB1 := Lib.hid hb1
 clear C1 hb1
 go_wp2_with fail
 refine C2.mono ?_
 rintro e w2 ⟨rfl, hb2⟩
 dsimp only
 have HB2 := Lib.hid (bthn HB1.out hb2)
 clear C2 hb2
 go_wp2_with fail
 go_ret
 exact ⟨rfl, HB2.out⟩
end Go.Proofs.YtgmahhdnjikdjaaGreat
