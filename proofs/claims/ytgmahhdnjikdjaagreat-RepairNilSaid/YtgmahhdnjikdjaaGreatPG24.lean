import Derived.Test.YtgmahhdnjikdjaaGreatPG18
import Derived.Test.YtgmahhdnjikdjaaGreatPG19
import Derived.Test.YtgmahhdnjikdjaaGreatPG23
import Derived.Test.YtgmahhdnjikdjaaGreatPG22
import Derived.Test.YtgmahhdnjikdjaaGreatPG17
import Derived.Test.YtgmahhdnjikdjaaGreatPG13
set_option linter.unusedVariables false
set_option linter.unusedSimpArgs false
/- RepairNil's disks, plainly. -/
namespace Go.Proofs.YtgmahhdnjikdjaaGreat
open Go.RowKit Wire
set_option linter.unusedVariables false
set_option linter.unusedSimpArgs false
/-- A block that is no node's. -/
def NoNd (R : List UInt8) : Prop := R.length = 256 ∧ ∃ k4 k5 : Nat, (∃ c, R[4]? = some c ∧ c.toNat = k4) ∧ (∃ c, R[5]? = some c ∧ c.toNat = k5) ∧ (k4 < 1 ∨ 3 < k4)
theorem noNd_zero : NoNd (zeros 256) := ⟨List.length_replicate, 0, 0, ⟨0, zer_get (by omega), rfl⟩, ⟨0, zer_get (by omega), rfl⟩, .inl (by omega)⟩
theorem noNd_page (no idx : Nat) (cs : List Nat) (hl : cs.length ≤ 120) : NoNd (pageB no idx cs) := by
 have h2 : (pageB no idx cs).drop 4 = pageBody no idx cs := by unfold pageB; exact sealB_drop _
 have e4 : (pageB no idx cs)[4]? = some 80 := by
  have : (pageB no idx cs)[4]? = ((pageB no idx cs).drop 4)[0]? := by rw [List.getElem?_drop]
  rw [this, h2]
  unfold pageBody
  rfl
 have e5 : (pageB no idx cs)[5]? = some 71 := by
  have : (pageB no idx cs)[5]? = ((pageB no idx cs).drop 4)[1]? := by rw [List.getElem?_drop]
  rw [this, h2]
  unfold pageBody
  rfl
 exact ⟨pageB_len hl, 80, 71, ⟨80, e4, rfl⟩, ⟨71, e5, rfl⟩, .inr (by omega)⟩
theorem rd_wpN_no (d : Dk) (pg mcs dcs : List Nat) (j : Nat) (hj : j * 4 + 4 ≤ d.img.length) : ∀ i, (∀ a, a < i → j ≠ 2 + pg.getD a 0) → rdB (d.wpN pg mcs dcs i).img j = rdB d.img j
 | 0, _ => rfl
 | i + 1, h => by
  have hl := (d.wpN_at pg mcs dcs i).1
  show rdB ((d.wpN pg mcs dcs i).wrK _ _).img _ = _
  rw [Dk.wrK_img, rd_wr_other (by rw [hl]; exact hj) (h i (by omega)), rd_wpN_no d pg mcs dcs j hj i (fun a ha => h a (by omega))]
theorem saved_img (d : Dk) (s : Su) : (d.saved s).img = wrB d.img (s.tx % 2) s.bytes := by
 show (d.wrK (s.tx % 2) s.bytes).img = _
 rw [Dk.wrK_img]
theorem fmt_noNd {n m k : Nat} (ok : MkOk n m k) (j : Nat) (hj : j < m) : NoNd (rdB ((dk0 n).fmt m k).img (2 + j)) := by
 have hs := ok.sec
 have h6 := ok.p6
 have hl := ((dk0 n).wpN_at (pgK (pagesN m + pagesN k)) (ctK m (pagesN m + pagesN k)) (List.replicate k 0) (pagesN m + pagesN k)).1
 have hn : (dk0 n).img.length = n := dk0_len n
 by_cases h : ∃ a, a < pagesN m + pagesN k ∧ j = (pgK (pagesN m + pagesN k)).getD a 0
 ·obtain ⟨a, ha, rfl⟩ := h
  rw [fmt_page hn ok ha]
  exact noNd_page _ _ _ (by rw [partC_len]; omega)
 ·rw [fmt_img, rd_wr_other (by rw [wrB_len, hl, hn]; omega) (by omega), rd_wr_other (by rw [hl, hn]; omega) (by omega), rd_wpN_no _ _ _ _ _ (by rw [hn]; omega) _ (fun a ha e => h ⟨a, ha, by omega⟩), zeros_dk0 n _ (by omega)]
  exact noNd_zero
def dA : Dk := (dk0 400).fmt 60 8
def sA : Su := suF 60 8 (pagesN 60 + pagesN 8)
def sX : Su := { sA with tx := 4611686018427387904 }
def dX : Dk := dA.saved sX
def dY : Dk := dX.wrK 3 (zeros 256)
theorem okA : MkOk 400 60 8 := by constructor <;> decide
theorem p2 : pagesN 60 + pagesN 8 = 2 := by decide
theorem sA_wf : sA.Wf := suF_wf 60 8 okA.p6
theorem sA_may : sA.May := suF_may okA.m1 okA.m2 okA.k1 okA.k2 okA.p6 (by decide)
theorem sX_wf : sX.Wf := by
 obtain ⟨_, h⟩ := sA_wf
 exact ⟨by show 4611686018427387904 < _; omega, h⟩
theorem sX_may : sX.May := by
 obtain ⟨h1, h2, h3, h4, _, _, h7⟩ := sA_may
 exact ⟨h1, h2, h3, h4, by show 1 ≤ 4611686018427387904; omega, by show 4611686018427387904 ≤ _; omega, h7⟩
theorem dA_len : dA.img.length = 400 := by unfold dA; rw [fmt_len, dk0_len]
theorem dX_len : dX.img.length = 400 := by unfold dX; rw [saved_img, wrB_len, dA_len]
theorem dY_len : dY.img.length = 400 := by unfold dY; rw [Dk.wrK_img, wrB_len, dX_len]
theorem dX_other {j : Nat} (hj : j * 4 + 4 ≤ 400) (h : j ≠ 0) : rdB dX.img j = rdB dA.img j := by
 unfold dX
 rw [saved_img]
 exact rd_wr_other (by rw [dA_len]; exact hj) (by show j ≠ 4611686018427387904 % 2; omega)
theorem dY_other {j : Nat} (hj : j * 4 + 4 ≤ 400) (h : j ≠ 3) : rdB dY.img j = rdB dX.img j := by
 unfold dY
 rw [Dk.wrK_img]
 exact rd_wr_other (by rw [dX_len]; exact hj) h
theorem dY_page : rdB dY.img 3 = zeros 256 := by
 unfold dY
 rw [Dk.wrK_img]
 exact rd_wr (zeros_len 256) (by rw [dX_len]; omega)
theorem dA_noNd (j : Nat) (hj : j < 60) : NoNd (rdB dA.img (2 + j)) := fmt_noNd okA j hj
theorem dX_noNd (j : Nat) (hj : j < 60) : NoNd (rdB dX.img (2 + j)) := by
 rw [dX_other (by omega) (by omega)]
 exact dA_noNd j hj
theorem dY_noNd (j : Nat) (hj : j < 60) : NoNd (rdB dY.img (2 + j)) := by
 by_cases h : 2 + j = 3
 ·rw [h, dY_page]
  exact noNd_zero
 ·rw [dY_other (by omega) h]
  exact dX_noNd j hj
def slX (i : Nat) : Su := if i = 0 then sX else sA
theorem dX_slots : ∀ i, i < 2 → OfR (rdB dX.img i) (slX i) ((fun _ => (0 : Int)) i) := fun i hi => by
 rcases (show i = 0 ∨ i = 1 by omega) with rfl | rfl
 ·have e : rdB dX.img 0 = sX.bytes := by
   unfold dX
   rw [saved_img]
   exact rd_wr (Su.bytes_len sX_wf.2.1) (by rw [dA_len]; decide)
  rw [e]
  exact ofr_su _ sX_wf sX_may
 ·rw [dX_other (by omega) (by omega)]
  have h := fmt_slots (dk0_len 400) okA 1 (by omega)
  exact h
theorem dY_slots : ∀ i, i < 2 → OfR (rdB dY.img i) (slX i) ((fun _ => (0 : Int)) i) := fun i hi => by
 rw [dY_other (by omega) (by omega)]
 exact dX_slots i hi
theorem slX_tx : ∀ i, i < 2 → (slX i).tx < 18446744073709551616 := fun i hi => by
 rcases (show i = 0 ∨ i = 1 by omega) with rfl | rfl
 ·show 4611686018427387904 < _; omega
 ·show 1 < _; omega
theorem slX_best : bestS slX (fun _ => 0) 2 = sX := by
 show stepS (stepS suO 0 sX 0) 1 sA 0 = _
 have e : stepS suO 0 sX 0 = sX := by unfold stepS; rw [if_pos ⟨rfl, by show 4611686018427387904 % 2 = 0; omega, by show 0 < 4611686018427387904; omega⟩]
 rw [e]
 unfold stepS
 rw [if_neg (by rintro ⟨_, _, h⟩; have : 4611686018427387904 < 1 := h; omega)]
theorem dX_ok : OpOk dX sX 60 8 (ctK 60 (pagesN 60 + pagesN 8)) (List.replicate 8 0) := by
 have h := fmt_ok (dk0_len 400) okA
 refine ⟨sX_wf, sX_may, h.sm, h.sk, h.ml, h.dl, h.mc, h.dc, h.p6, by rw [dX_len]; decide, h.cur, fun i hi => ?_, h.one0, h.one, h.top, h.base, h.stage⟩
 have e : sX.pages.getD i 0 = i + 1 := pgK_get okA.p6 hi
 have h9 := h.good i hi
 rw [p2] at hi
 rw [dX_other (by rw [e]; omega) (by rw [e]; omega)]
 exact h9
theorem sX_bare : Bare sX 60 8 (pagesN 60 + pagesN 8) := by
 have h := bareF okA
 exact ⟨h.sm, h.sk, h.rt, h.pP, h.p6, h.pg, h.m1, h.k1⟩
theorem sX_pg0 : sX.pages.getD 0 0 = 1 := by decide
end Go.Proofs.YtgmahhdnjikdjaaGreat
/- repair: lies (a disk as it lies), walked. -/
namespace Go.Proofs.YtgmahhdnjikdjaaGreat
open Go.RowKit Wire
set_option linter.unusedVariables false
set_option linter.unusedSimpArgs false
set_option maxRecDepth 100000 in
set_option maxHeartbeats 6400000 in
theorem lies_err (w : World) (a : Option Addr) (er : Int) (he : er ≠ 0) (hc : Calls Tryz.prog 27 #[.pointer a] w fun e w' => e = .returned (.tuple #[.agg suZ.toArray, .int .i64 er]) ∧ Below w.heap.size w w') :
  Calls Tryz.prog 58 #[.pointer a] w fun e w' => e = .returned (.tuple #[.pointer none, .int .i64 er]) ∧ Below w.heap.size w w' := by
 obtain ⟨SL, hSL⟩ : ∃ L, suZ = L := ⟨_, rfl⟩
 have HS19 : Hid (SL.length = 19) := Lib.hid (by rw [← hSL]; rfl)
 have HS1 : Hid (SL.toArray.all (·.oneCell') = true) := Lib.hid (by rw [← hSL]; kernel_rfl)
 rw [hSL] at hc
 have hss : SL.toArray.size = 19 := by rw [List.size_toArray, HS19.out]
 have hez : (er == 0) = false := by simp [he]
 have hez2 : (er != 0) = true := by simp [he]
 clear hSL
 go_enter Tryz.func58, Tryz.ntmps58
 go_wp2_with fail
 refine hc.mono ?_
 rintro e w2 ⟨rfl, hb2⟩
 dsimp only
 have HB2 := Lib.hid hb2
 clear hc hb2
 repeat (first
  | (refine wpList_store_mid rfl 72 _ _ rfl w2.heap.size 0 SL.toArray rfl rfl (thereOf (heap_alloc_new w2 _) (by rw [hss]; simp)) (by rw [hss]; exact infoSup) HS1.out ?_; refine Hid.out ?_)
  | go_step)
 refine Lib.hid ?_
 simp only [List.toList_toArray]
 obtain ⟨w3, hw3⟩ : ∃ W, (w2.alloc (.cells #[.int .u64 0, .int .i64 0, .int .i64 0, .int .u32 0, .int .u32 0, .int .u32 0, .int .u32 0, .int .u32 0, .int .u32 0, .int .u32 0, .int .u32 0, .int .u32 0, .int .i64 0, .int .u64 0, .int .u64 0, .int .u64 0, .int .u64 0, .int .u64 0, .bool false] 72)).setCells w2.heap.size 0 SL = W := ⟨_, rfl⟩
 have HB3 : Hid (Below w.heap.size w w3) := Lib.hid (bthn HB2.out (by rw [← hw3]; exact belowSets (Nat.le_refl _) _ _ _ (balloc (Below.refl _ _) _)))
 rw [hw3]
 clear hw3 hss
 go_wp2_with fail
 go_ret2
 exact ⟨rfl, HB3.out⟩
set_option maxRecDepth 100000 in
set_option maxHeartbeats 6400000 in
theorem lies_small (n0 : Nat) (w : World) (B : Nat) (iv jv : Value) (d : Dk) (h : DkAt n0 w B iv jv d) (s : Su) (m k : Nat) (hsm : s.mt = (m : Int)) (hsk : s.data = (k : Int)) (hm : 16 ≤ m ∧ m ≤ 240) (hk : 1 ≤ k ∧ k ≤ 480) (h8 : 8 ≤ d.img.length) (hsec : d.img.length < 4 * (2 + m + k)) (hn : d.img.length ≤ 1000000) (Sf : Nat → Su) (ef : Nat → Int) (ho : ∀ i, i < 2 → OfR (rdB d.img i) (Sf i) (ef i)) (ht : ∀ i, i < 2 → (Sf i).tx < 18446744073709551616) (hb : bestS Sf ef 2 = s) (htx : s.tx ≠ 0) :
  Calls Tryz.prog 58 #[.pointer (some ⟨B, 0, none⟩)] w fun e w' => e = .returned (.tuple #[.pointer none, .int .i64 2]) ∧ Below w.heap.size w w' := by
 obtain ⟨m1, m2⟩ := hm
 obtain ⟨k1, k2⟩ := hk
 have HDK := Lib.hid h
 have HNN := Lib.hid hn
 have HSM := Lib.hid (And.intro hsm hsk)
 have CLD := sload_at n0 w B iv jv d h (by omega) hn Sf ef ho ht (by rw [hb]; exact htx)
 rw [hb, suL_v] at CLD
 have CBL : Hid (∀ X, Calls Tryz.prog 91 #[.int .i64 (m : Int), .int .i64 (k : Int)] X fun e w' => e = .returned (.int .i64 (2 + (m : Int) + (k : Int))) ∧ Below X.heap.size X w') := Lib.hid (fun X => (sblocks_any X m k (by omega) (by omega)).mono fun e w' hp => ⟨hp.1, by rw [← hp.2]; exact Below.refl _ _⟩)
 have CSC : Hid (∀ X, DkAt n0 X B iv jv d → Calls Tryz.prog 66 #[.pointer (some ⟨B, 0, none⟩)] X fun e w' => e = .returned (.int .i64 (d.img.length : Int)) ∧ Below X.heap.size X w') := Lib.hid (fun X hX => (dsec_at n0 X B iv jv d hX).mono fun e w' hp => ⟨hp.1, by rw [← hp.2]; exact Below.refl _ _⟩)
 obtain ⟨n, hnn⟩ : ∃ n, d.img.length = n := ⟨_, rfl⟩
 rw [hnn] at CSC hsec hn
 clear h ho ht hb hnn htx hsm hsk h8
 obtain ⟨SL, hSL⟩ : ∃ L, suL s = L := ⟨_, rfl⟩
 have HSL := Lib.hid hSL
 have HS19 : Hid (SL.length = 19) := Lib.hid (by rw [← hSL]; rfl)
 have HS1 : Hid (∀ u ∈ SL, u.oneCell' = true) := Lib.hid (by rw [← hSL]; exact suL_one s)
 rw [hSL] at CLD
 have hss : SL.toArray.size = 19 := by rw [List.size_toArray, HS19.out]
 clear hSL
 go_enter Tryz.func58, Tryz.ntmps58
 go_wp2_with fail
 refine CLD.mono ?_
 rintro e w2 ⟨rfl, hb2⟩
 dsimp only
 have HB2 := Lib.hid hb2
 clear CLD hb2
 repeat (first
  | (refine wpList_store_mid rfl 72 _ _ rfl w2.heap.size 0 SL.toArray rfl rfl (thereOf (heap_alloc_new w2 _) (by rw [hss]; simp)) (by rw [hss]; exact infoSup) (Array.all_eq_true_iff_forall_mem.2 (fun v hv => HS1.out v (by simpa using hv))) ?_; refine Hid.out ?_)
  | go_step)
 refine Lib.hid ?_
 simp only [List.toList_toArray]
 obtain ⟨w3, hw3⟩ : ∃ W, (w2.alloc (.cells #[.int .u64 0, .int .i64 0, .int .i64 0, .int .u32 0, .int .u32 0, .int .u32 0, .int .u32 0, .int .u32 0, .int .u32 0, .int .u32 0, .int .u32 0, .int .u32 0, .int .i64 0, .int .u64 0, .int .u64 0, .int .u64 0, .int .u64 0, .int .u64 0, .bool false] 72)).setCells w2.heap.size 0 SL = W := ⟨_, rfl⟩
 have HB3 : Hid (Below w.heap.size w w3) := Lib.hid (bthn HB2.out (by rw [← hw3]; exact belowSets (Nat.le_refl _) _ _ _ (balloc (Below.refl _ _) _)))
 obtain ⟨xb, hxb⟩ : ∃ x, w2.heap.size = x := ⟨_, rfl⟩
 have HX3 : Hid (w3.heap[xb]? = some (.cells (suL s).toArray 72 (0, 0))) := Lib.hid (by rw [HSL.out, ← hw3, ← hxb]; exact sets_all (heap_alloc_new _ _) (by rw [HS19.out]; rfl))
 rw [hw3, hxb]
 clear hw3 hxb hss
 have hc1 : Hid (w3.cell? ⟨xb, 1, none⟩ = some (.int .i64 (m : Int))) := Lib.hid (cellOf HX3.out 1 (by rw [← HSM.out.1]; rfl))
 have hc2 : Hid (w3.cell? ⟨xb, 2, none⟩ = some (.int .i64 (k : Int))) := Lib.hid (cellOf HX3.out 2 (by rw [← HSM.out.2]; rfl))
 have HXL : Hid (xb < w3.heap.size) := Lib.hid (Array.getElem?_eq_some_iff.1 HX3.out).1
 have hw1 : IntKind.i64.wrap (4 * (2 + (m : Int) + (k : Int))) = 4 * (2 + (m : Int) + (k : Int)) := IntWalk.i64_in _ ⟨by omega, by omega⟩
 have q4 : decide ((n : Int) < 4 * (2 + (m : Int) + (k : Int))) = true := decide_eq_true (by omega)
 go_wp2_with fail
 have HSS : Hid (∀ X, Below w3.heap.size w3 X → (X.cell? ⟨xb, 1, none⟩ = some (.int .i64 (m : Int)) ∧ X.cell? ⟨xb, 2, none⟩ = some (.int .i64 (k : Int))) ∧ Below w3.heap.size w3 X) := Lib.hid (fun X hb => ⟨⟨(World.cell?_of_block (hb.block _ (HXL.out))).trans (hc1.out), (World.cell?_of_block (hb.block _ (HXL.out))).trans (hc2.out)⟩, hb⟩)
 refine wp_region_held_drew (S := fun X => (X.cell? ⟨xb, 1, none⟩ = some (.int .i64 (m : Int)) ∧ X.cell? ⟨xb, 2, none⟩ = some (.int .i64 (k : Int))) ∧ Below w3.heap.size w3 X) (by kernel_rfl) (HSS.out _ (Below.refl _ _).drew) (fun hHeld => ?_)
 have hbe : Below w3.heap.size w3 w3.drew := (Below.refl _ _).drew
 obtain ⟨wd, hwd⟩ : ∃ y, w3.drew = y := ⟨_, rfl⟩
 rw [hwd] at hHeld hbe ⊢
 have HBE := Lib.hid hbe
 have HS0 : Hid (w3.heap.size ≤ wd.heap.size) := Lib.hid HBE.out.size
 clear hwd hbe
 refine wpAnyH_take (i := 0) (v := ?_) rfl (by kernel_rfl) (by kernel_rfl) (by kernel_rfl) (fun _ _ _ h => h) (Or.inl ⟨by rfl, ?_⟩) (by assumption) ?_
 rotate_left
 ·(intro w hSw; (try dsimp only at hSw); simp only [List.getElem_toArray, List.getElem_cons_zero, List.getElem_cons_succ]; go_simp; first | done | with_reducible rfl)
 simp only [List.getElem_toArray, List.getElem_cons_zero, List.getElem_cons_succ, Act.put, List.setIfInBounds_toArray, List.set_cons_zero, List.set_cons_succ]
 refine wpAnyH_take (i := 2) (v := ?_) rfl (by kernel_rfl) (by kernel_rfl) (by kernel_rfl) (fun _ _ _ h => h) (Or.inl ⟨by rfl, ?_⟩) (by assumption) ?_
 rotate_left
 ·(intro w hSw; (try dsimp only at hSw); simp only [List.getElem_toArray, List.getElem_cons_zero, List.getElem_cons_succ]; go_simp; first | done | with_reducible rfl)
 simp only [List.getElem_toArray, List.getElem_cons_zero, List.getElem_cons_succ, Act.put, List.setIfInBounds_toArray, List.set_cons_zero, List.set_cons_succ]
 refine wpAnyH_take (i := 4) (v := ?_) rfl (by kernel_rfl) (by kernel_rfl) (by kernel_rfl) (fun _ _ _ h => h) (Or.inl ⟨by rfl, ?_⟩) (by assumption) ?_
 rotate_left
 ·(intro w hSw; (try dsimp only at hSw); simp only [List.getElem_toArray, List.getElem_cons_zero, List.getElem_cons_succ]; go_simp; first | done | with_reducible rfl)
 simp only [List.getElem_toArray, List.getElem_cons_zero, List.getElem_cons_succ, Act.put, List.setIfInBounds_toArray, List.set_cons_zero, List.set_cons_succ]
 refine wpAnyH_take (i := 3) (v := ?_) rfl (by kernel_rfl) (by kernel_rfl) (by kernel_rfl) (fun _ _ _ h => h) (Or.inl ⟨by rfl, ?_⟩) (by assumption) ?_
 rotate_left
 ·(intro w hSw; (try dsimp only at hSw); simp only [List.getElem_toArray, List.getElem_cons_zero, List.getElem_cons_succ]; go_simp; first | done | with_reducible rfl)
 simp only [List.getElem_toArray, List.getElem_cons_zero, List.getElem_cons_succ, Act.put, List.setIfInBounds_toArray, List.set_cons_zero, List.set_cons_succ]
 refine wpAnyH_take (i := 5) (v := ?_) rfl (by kernel_rfl) (by kernel_rfl) (by kernel_rfl) (fun _ _ _ h => h) (Or.inl ⟨by rfl, ?_⟩) (by assumption) ?_
 rotate_left
 ·(intro w hSw; (try dsimp only at hSw); simp only [List.getElem_toArray, List.getElem_cons_zero, List.getElem_cons_succ]; go_simp; first | done | with_reducible rfl)
 simp only [List.getElem_toArray, List.getElem_cons_zero, List.getElem_cons_succ, Act.put, List.setIfInBounds_toArray, List.set_cons_zero, List.set_cons_succ]
 refine wpAnyH_ready (rs := [1]) (by kernel_rfl) (by simp) ?_
 refine AllReadyH.cons rfl (fun K hK => ?_) (AllReadyH.nil)
 simp only [List.getElem_toArray, List.getElem_cons_zero, List.getElem_cons_succ]
 go_simp
 refine (CSC.out _ (HDK.out.below (bthn HB3.out HBE.out))).mono ?_
 rintro e y1 ⟨rfl, hb1⟩
 dsimp only
 have HBE := Lib.hid (bthen HBE.out hb1)
 have hSp := HSS.out _ HBE.out
 clear hHeld
 refine hK.out _ _ hSp (fun hHeld => ?_)
 clear hSp hK K
 try simp only [Act.put, List.setIfInBounds_toArray, List.set_cons_zero, List.set_cons_succ]
 have HC1 := Lib.hid hb1
 clear hb1
 refine wpAnyH_ready (rs := [6]) (by kernel_rfl) (by simp) ?_
 refine AllReadyH.cons rfl (fun K hK => ?_) (AllReadyH.nil)
 simp only [List.getElem_toArray, List.getElem_cons_zero, List.getElem_cons_succ]
 go_simp
 refine (CBL.out _).mono ?_
 rintro e y6 ⟨rfl, hb6⟩
 dsimp only
 have HBE := Lib.hid (bthen HBE.out hb6)
 have hSp := HSS.out _ HBE.out
 clear hHeld
 refine hK.out _ _ hSp (fun hHeld => ?_)
 clear hSp hK K
 try simp only [Act.put, List.setIfInBounds_toArray, List.set_cons_zero, List.set_cons_succ]
 have HC6 := Lib.hid hb6
 clear hb6
 refine wpAnyH_take (i := 7) (v := ?_) rfl (by kernel_rfl) (by kernel_rfl) (by kernel_rfl) (fun _ _ _ h => h) (Or.inl ⟨by rfl, ?_⟩) (by assumption) ?_
 rotate_left
 ·(intro w hSw; (try dsimp only at hSw); simp only [List.getElem_toArray, List.getElem_cons_zero, List.getElem_cons_succ]; go_simp; first | done | with_reducible rfl)
 simp only [List.getElem_toArray, List.getElem_cons_zero, List.getElem_cons_succ, Act.put, List.setIfInBounds_toArray, List.set_cons_zero, List.set_cons_succ]
 refine wpAnyH_take (i := 8) (v := ?_) rfl (by kernel_rfl) (by kernel_rfl) (by kernel_rfl) (fun _ _ _ h => h) (Or.inl ⟨by rfl, ?_⟩) (by assumption) ?_
 rotate_left
 ·(intro w hSw; (try dsimp only at hSw); simp only [List.getElem_toArray, List.getElem_cons_zero, List.getElem_cons_succ]; go_simp; first | done | with_reducible rfl)
 simp only [List.getElem_toArray, List.getElem_cons_zero, List.getElem_cons_succ, Act.put, List.setIfInBounds_toArray, List.set_cons_zero, List.set_cons_succ]
 refine wpAnyH_take (i := 9) (v := ?_) rfl (by kernel_rfl) (by kernel_rfl) (by kernel_rfl) (fun _ _ _ h => h) (Or.inl ⟨by rfl, ?_⟩) (by assumption) ?_
 rotate_left
 ·(intro w hSw; (try dsimp only at hSw); simp only [List.getElem_toArray, List.getElem_cons_zero, List.getElem_cons_succ]; go_simp; first | done | with_reducible rfl)
 simp only [List.getElem_toArray, List.getElem_cons_zero, List.getElem_cons_succ, Act.put, List.setIfInBounds_toArray, List.set_cons_zero, List.set_cons_succ]
 refine wpAnyH_done (by kernel_rfl) ?_ _
 have HEND := Lib.hid hHeld.2
 have HSE := Lib.hid hHeld.1
 clear hHeld
 clear HSS HSE HEND
 have HB6 : Hid (Below w.heap.size w y6) := Lib.hid (bthn HB3.out HBE.out)
 go_wp2_with fail
 go_ret2
 exact ⟨rfl, HB6.out⟩
end Go.Proofs.YtgmahhdnjikdjaaGreat
/- repair: lies of a pool without nodes, walked. -/
namespace Go.Proofs.YtgmahhdnjikdjaaGreat
open Go.RowKit Wire
set_option linter.unusedVariables false
set_option linter.unusedSimpArgs false
/-- A view's cells. -/
def vwC (s : Su) (mp : Nat) : Array Value := (suL s ++ [Value.map (some mp)]).toArray
theorem vw_built (s : Su) (mp : Nat) : Tryz.prog.built 142 [(0, .agg (suL s).toArray), (1, .map (some mp))] = some (vwC s mp) := by kernel_rfl
/-- A view in memory. -/
def VwAt (W : World) (V mp : Nat) (s : Su) : Prop := W.heap[V]? = some (.cells (vwC s mp) 142 (0, 0)) ∧ W.heap[mp]? = some (.map #[] 0)
theorem VwAt.below {W W' : World} {V mp : Nat} {s : Su} (h : VwAt W V mp s) (hb : Below W.heap.size W W') : VwAt W' V mp s :=
 ⟨(hb.block _ (Array.getElem?_eq_some_iff.1 h.1).1).trans h.1, (hb.block _ (Array.getElem?_eq_some_iff.1 h.2).1).trans h.2⟩
/-- What lies answers. -/
def LiesP (w : World) (s : Su) (e : Ending) (w' : World) : Prop := ∃ V mp, e = .returned (.tuple #[.pointer (some ⟨V, 0, none⟩), .int .i64 0]) ∧ VwAt w' V mp s ∧ w.heap.size ≤ V ∧ w.heap.size ≤ mp ∧ V ≠ mp ∧ Below w.heap.size w w'
set_option maxRecDepth 100000 in
set_option maxHeartbeats 6400000 in
theorem lies_ok (n0 : Nat) (w : World) (B : Nat) (iv jv : Value) (d : Dk) (h : DkAt n0 w B iv jv d) (s : Su) (m k : Nat) (hsm : s.mt = (m : Int)) (hsk : s.data = (k : Int)) (hm : 16 ≤ m ∧ m ≤ 240) (hk : 1 ≤ k ∧ k ≤ 480) (hsec : 4 * (2 + m + k) ≤ d.img.length) (hn : d.img.length ≤ 1000000) (Sf : Nat → Su) (ef : Nat → Int) (ho : ∀ i, i < 2 → OfR (rdB d.img i) (Sf i) (ef i)) (ht : ∀ i, i < 2 → (Sf i).tx < 18446744073709551616) (hb : bestS Sf ef 2 = s) (htx : s.tx ≠ 0) (hnd : ∀ j, j < m → NoNd (rdB d.img (2 + j))) :
  Calls Tryz.prog 58 #[.pointer (some ⟨B, 0, none⟩)] w (LiesP w s) := by
 obtain ⟨m1, m2⟩ := hm
 obtain ⟨k1, k2⟩ := hk
 have HND := Lib.hid hnd
 have HSC := Lib.hid hsec
 have HDK := Lib.hid h
 have HNN := Lib.hid hn
 have HSM := Lib.hid (And.intro hsm hsk)
 have CLD := sload_at n0 w B iv jv d h (by omega) hn Sf ef ho ht (by rw [hb]; exact htx)
 rw [hb, suL_v] at CLD
 have CBL : Hid (∀ X, Calls Tryz.prog 91 #[.int .i64 (m : Int), .int .i64 (k : Int)] X fun e w' => e = .returned (.int .i64 (2 + (m : Int) + (k : Int))) ∧ Below X.heap.size X w') := Lib.hid (fun X => (sblocks_any X m k (by omega) (by omega)).mono fun e w' hp => ⟨hp.1, by rw [← hp.2]; exact Below.refl _ _⟩)
 have CSC : Hid (∀ X, DkAt n0 X B iv jv d → Calls Tryz.prog 66 #[.pointer (some ⟨B, 0, none⟩)] X fun e w' => e = .returned (.int .i64 (d.img.length : Int)) ∧ Below X.heap.size X w') := Lib.hid (fun X hX => (dsec_at n0 X B iv jv d hX).mono fun e w' hp => ⟨hp.1, by rw [← hp.2]; exact Below.refl _ _⟩)
 obtain ⟨n, hnn⟩ : ∃ n, d.img.length = n := ⟨_, rfl⟩
 rw [hnn] at CSC hsec hn
 clear h ho ht hb hnn htx hsm hsk hnd
 obtain ⟨SL, hSL⟩ : ∃ L, suL s = L := ⟨_, rfl⟩
 have HSL := Lib.hid hSL
 have HS19 : Hid (SL.length = 19) := Lib.hid (by rw [← hSL]; rfl)
 have HS1 : Hid (∀ u ∈ SL, u.oneCell' = true) := Lib.hid (by rw [← hSL]; exact suL_one s)
 rw [hSL] at CLD
 have hss : SL.toArray.size = 19 := by rw [List.size_toArray, HS19.out]
 clear hSL
 go_enter Tryz.func58, Tryz.ntmps58
 go_wp2_with fail
 refine CLD.mono ?_
 rintro e w2 ⟨rfl, hb2⟩
 dsimp only
 have HB2 := Lib.hid hb2
 clear CLD hb2
 repeat (first
  | (refine wpList_store_mid rfl 72 _ _ rfl w2.heap.size 0 SL.toArray rfl rfl (thereOf (heap_alloc_new w2 _) (by rw [hss]; simp)) (by rw [hss]; exact infoSup) (Array.all_eq_true_iff_forall_mem.2 (fun v hv => HS1.out v (by simpa using hv))) ?_; refine Hid.out ?_)
  | go_step)
 refine Lib.hid ?_
 simp only [List.toList_toArray]
 obtain ⟨w3, hw3⟩ : ∃ W, (w2.alloc (.cells #[.int .u64 0, .int .i64 0, .int .i64 0, .int .u32 0, .int .u32 0, .int .u32 0, .int .u32 0, .int .u32 0, .int .u32 0, .int .u32 0, .int .u32 0, .int .u32 0, .int .i64 0, .int .u64 0, .int .u64 0, .int .u64 0, .int .u64 0, .int .u64 0, .bool false] 72)).setCells w2.heap.size 0 SL = W := ⟨_, rfl⟩
 have HB3 : Hid (Below w.heap.size w w3) := Lib.hid (bthn HB2.out (by rw [← hw3]; exact belowSets (Nat.le_refl _) _ _ _ (balloc (Below.refl _ _) _)))
 obtain ⟨xb, hxb⟩ : ∃ x, w2.heap.size = x := ⟨_, rfl⟩
 have HX3 : Hid (w3.heap[xb]? = some (.cells (suL s).toArray 72 (0, 0))) := Lib.hid (by rw [HSL.out, ← hw3, ← hxb]; exact sets_all (heap_alloc_new _ _) (by rw [HS19.out]; rfl))
 rw [hw3, hxb]
 clear hw3 hxb hss
 have hc1 : Hid (w3.cell? ⟨xb, 1, none⟩ = some (.int .i64 (m : Int))) := Lib.hid (cellOf HX3.out 1 (by rw [← HSM.out.1]; rfl))
 have hc2 : Hid (w3.cell? ⟨xb, 2, none⟩ = some (.int .i64 (k : Int))) := Lib.hid (cellOf HX3.out 2 (by rw [← HSM.out.2]; rfl))
 have HXL : Hid (xb < w3.heap.size) := Lib.hid (Array.getElem?_eq_some_iff.1 HX3.out).1
 have hw1 : IntKind.i64.wrap (4 * (2 + (m : Int) + (k : Int))) = 4 * (2 + (m : Int) + (k : Int)) := IntWalk.i64_in _ ⟨by omega, by omega⟩
 have q4 : decide ((n : Int) < 4 * (2 + (m : Int) + (k : Int))) = false := decide_eq_false (by omega)
 go_wp2_with fail
 have HSS : Hid (∀ X, Below w3.heap.size w3 X → (X.cell? ⟨xb, 1, none⟩ = some (.int .i64 (m : Int)) ∧ X.cell? ⟨xb, 2, none⟩ = some (.int .i64 (k : Int))) ∧ Below w3.heap.size w3 X) := Lib.hid (fun X hb => ⟨⟨(World.cell?_of_block (hb.block _ (HXL.out))).trans (hc1.out), (World.cell?_of_block (hb.block _ (HXL.out))).trans (hc2.out)⟩, hb⟩)
 refine wp_region_held_drew (S := fun X => (X.cell? ⟨xb, 1, none⟩ = some (.int .i64 (m : Int)) ∧ X.cell? ⟨xb, 2, none⟩ = some (.int .i64 (k : Int))) ∧ Below w3.heap.size w3 X) (by kernel_rfl) (HSS.out _ (Below.refl _ _).drew) (fun hHeld => ?_)
 have hbe : Below w3.heap.size w3 w3.drew := (Below.refl _ _).drew
 obtain ⟨wd, hwd⟩ : ∃ y, w3.drew = y := ⟨_, rfl⟩
 rw [hwd] at hHeld hbe ⊢
 have HBE := Lib.hid hbe
 have HS0 : Hid (w3.heap.size ≤ wd.heap.size) := Lib.hid HBE.out.size
 clear hwd hbe
 refine wpAnyH_take (i := 0) (v := ?_) rfl (by kernel_rfl) (by kernel_rfl) (by kernel_rfl) (fun _ _ _ h => h) (Or.inl ⟨by rfl, ?_⟩) (by assumption) ?_
 rotate_left
 ·(intro w hSw; (try dsimp only at hSw); simp only [List.getElem_toArray, List.getElem_cons_zero, List.getElem_cons_succ]; go_simp; first | done | with_reducible rfl)
 simp only [List.getElem_toArray, List.getElem_cons_zero, List.getElem_cons_succ, Act.put, List.setIfInBounds_toArray, List.set_cons_zero, List.set_cons_succ]
 refine wpAnyH_take (i := 2) (v := ?_) rfl (by kernel_rfl) (by kernel_rfl) (by kernel_rfl) (fun _ _ _ h => h) (Or.inl ⟨by rfl, ?_⟩) (by assumption) ?_
 rotate_left
 ·(intro w hSw; (try dsimp only at hSw); simp only [List.getElem_toArray, List.getElem_cons_zero, List.getElem_cons_succ]; go_simp; first | done | with_reducible rfl)
 simp only [List.getElem_toArray, List.getElem_cons_zero, List.getElem_cons_succ, Act.put, List.setIfInBounds_toArray, List.set_cons_zero, List.set_cons_succ]
 refine wpAnyH_take (i := 4) (v := ?_) rfl (by kernel_rfl) (by kernel_rfl) (by kernel_rfl) (fun _ _ _ h => h) (Or.inl ⟨by rfl, ?_⟩) (by assumption) ?_
 rotate_left
 ·(intro w hSw; (try dsimp only at hSw); simp only [List.getElem_toArray, List.getElem_cons_zero, List.getElem_cons_succ]; go_simp; first | done | with_reducible rfl)
 simp only [List.getElem_toArray, List.getElem_cons_zero, List.getElem_cons_succ, Act.put, List.setIfInBounds_toArray, List.set_cons_zero, List.set_cons_succ]
 refine wpAnyH_take (i := 3) (v := ?_) rfl (by kernel_rfl) (by kernel_rfl) (by kernel_rfl) (fun _ _ _ h => h) (Or.inl ⟨by rfl, ?_⟩) (by assumption) ?_
 rotate_left
 ·(intro w hSw; (try dsimp only at hSw); simp only [List.getElem_toArray, List.getElem_cons_zero, List.getElem_cons_succ]; go_simp; first | done | with_reducible rfl)
 simp only [List.getElem_toArray, List.getElem_cons_zero, List.getElem_cons_succ, Act.put, List.setIfInBounds_toArray, List.set_cons_zero, List.set_cons_succ]
 refine wpAnyH_take (i := 5) (v := ?_) rfl (by kernel_rfl) (by kernel_rfl) (by kernel_rfl) (fun _ _ _ h => h) (Or.inl ⟨by rfl, ?_⟩) (by assumption) ?_
 rotate_left
 ·(intro w hSw; (try dsimp only at hSw); simp only [List.getElem_toArray, List.getElem_cons_zero, List.getElem_cons_succ]; go_simp; first | done | with_reducible rfl)
 simp only [List.getElem_toArray, List.getElem_cons_zero, List.getElem_cons_succ, Act.put, List.setIfInBounds_toArray, List.set_cons_zero, List.set_cons_succ]
 refine wpAnyH_ready (rs := [1]) (by kernel_rfl) (by simp) ?_
 refine AllReadyH.cons rfl (fun K hK => ?_) (AllReadyH.nil)
 simp only [List.getElem_toArray, List.getElem_cons_zero, List.getElem_cons_succ]
 go_simp
 refine (CSC.out _ (HDK.out.below (bthn HB3.out HBE.out))).mono ?_
 rintro e y1 ⟨rfl, hb1⟩
 dsimp only
 have HBE := Lib.hid (bthen HBE.out hb1)
 have hSp := HSS.out _ HBE.out
 clear hHeld
 refine hK.out _ _ hSp (fun hHeld => ?_)
 clear hSp hK K
 try simp only [Act.put, List.setIfInBounds_toArray, List.set_cons_zero, List.set_cons_succ]
 have HC1 := Lib.hid hb1
 clear hb1
 refine wpAnyH_ready (rs := [6]) (by kernel_rfl) (by simp) ?_
 refine AllReadyH.cons rfl (fun K hK => ?_) (AllReadyH.nil)
 simp only [List.getElem_toArray, List.getElem_cons_zero, List.getElem_cons_succ]
 go_simp
 refine (CBL.out _).mono ?_
 rintro e y6 ⟨rfl, hb6⟩
 dsimp only
 have HBE := Lib.hid (bthen HBE.out hb6)
 have hSp := HSS.out _ HBE.out
 clear hHeld
 refine hK.out _ _ hSp (fun hHeld => ?_)
 clear hSp hK K
 try simp only [Act.put, List.setIfInBounds_toArray, List.set_cons_zero, List.set_cons_succ]
 have HC6 := Lib.hid hb6
 clear hb6
 refine wpAnyH_take (i := 7) (v := ?_) rfl (by kernel_rfl) (by kernel_rfl) (by kernel_rfl) (fun _ _ _ h => h) (Or.inl ⟨by rfl, ?_⟩) (by assumption) ?_
 rotate_left
 ·(intro w hSw; (try dsimp only at hSw); simp only [List.getElem_toArray, List.getElem_cons_zero, List.getElem_cons_succ]; go_simp; first | done | with_reducible rfl)
 simp only [List.getElem_toArray, List.getElem_cons_zero, List.getElem_cons_succ, Act.put, List.setIfInBounds_toArray, List.set_cons_zero, List.set_cons_succ]
 refine wpAnyH_take (i := 8) (v := ?_) rfl (by kernel_rfl) (by kernel_rfl) (by kernel_rfl) (fun _ _ _ h => h) (Or.inl ⟨by rfl, ?_⟩) (by assumption) ?_
 rotate_left
 ·(intro w hSw; (try dsimp only at hSw); simp only [List.getElem_toArray, List.getElem_cons_zero, List.getElem_cons_succ]; go_simp; first | done | with_reducible rfl)
 simp only [List.getElem_toArray, List.getElem_cons_zero, List.getElem_cons_succ, Act.put, List.setIfInBounds_toArray, List.set_cons_zero, List.set_cons_succ]
 refine wpAnyH_take (i := 9) (v := ?_) rfl (by kernel_rfl) (by kernel_rfl) (by kernel_rfl) (fun _ _ _ h => h) (Or.inl ⟨by rfl, ?_⟩) (by assumption) ?_
 rotate_left
 ·(intro w hSw; (try dsimp only at hSw); simp only [List.getElem_toArray, List.getElem_cons_zero, List.getElem_cons_succ]; go_simp; first | done | with_reducible rfl)
 simp only [List.getElem_toArray, List.getElem_cons_zero, List.getElem_cons_succ, Act.put, List.setIfInBounds_toArray, List.set_cons_zero, List.set_cons_succ]
 refine wpAnyH_done (by kernel_rfl) ?_ _
 have HEND := Lib.hid hHeld.2
 have HSE := Lib.hid hHeld.1
 clear hHeld
 clear HSS HSE HEND
 have HB6 : Hid (Below w.heap.size w y6) := Lib.hid (bthn HB3.out HBE.out)
 have HX6 : Hid (y6.heap[xb]? = some (.cells (suL s).toArray 72 (0, 0))) := Lib.hid ((HBE.out.block _ HXL.out).trans HX3.out)
 have HRX : Hid (y6.rangeAt xb 0 SL) := Lib.hid (by rw [← HSL.out]; exact rangeOf HX6.out)
 have HIS : Hid ((Tryz.prog.info? 72).map (·.size) = some SL.length) := Lib.hid (by rw [HS19.out]; exact infoSup)
 have hmm := @run_makeMap Tryz.prog
 obtain ⟨mp, hmp⟩ : ∃ x, y6.heap.size = x := ⟨_, rfl⟩
 obtain ⟨x7, hx7⟩ : ∃ W, y6.alloc (.map #[] 0) = W := ⟨_, rfl⟩
 have hb7 : Below y6.heap.size y6 x7 := by rw [← hx7]; exact balloc (Below.refl _ _) _
 have hh7 : x7.heap[mp]? = some (.map #[] 0) := by rw [← hx7, ← hmp]; exact heap_alloc_new _ _
 obtain ⟨V, hV⟩ : ∃ x, x7.heap.size = x := ⟨_, rfl⟩
 obtain ⟨x8, hx8⟩ : ∃ W, x7.alloc (.cells (vwC s mp) 142) = W := ⟨_, rfl⟩
 have hb8 : Below x7.heap.size x7 x8 := by rw [← hx8]; exact balloc (Below.refl _ _) _
 have hh8 : x8.heap[V]? = some (.cells (vwC s mp) 142 (0, 0)) := by rw [← hx8, ← hV]; exact heap_alloc_new _ _
 have HVW : Hid (VwAt x8 V mp s) := Lib.hid ⟨hh8, (hb8.block _ (Array.getElem?_eq_some_iff.1 hh7).1).trans hh7⟩
 have HB8 : Hid (Below w.heap.size w x8) := Lib.hid (bthn HB6.out (bthn hb7 hb8))
 have HGE : Hid (w.heap.size ≤ mp ∧ mp < V) := Lib.hid ⟨by rw [← hmp]; exact HB6.out.size, by rw [← hV]; exact (Array.getElem?_eq_some_iff.1 hh7).1⟩
 have d1 : x8.cell? ⟨xb, 1, none⟩ = some (.int .i64 (m : Int)) := cellOf ((hb8.block _ (by have := (Array.getElem?_eq_some_iff.1 HX6.out).1; have := hb7.size; omega)).trans ((hb7.block _ (Array.getElem?_eq_some_iff.1 HX6.out).1).trans HX6.out)) 1 (by rw [← HSM.out.1]; rfl)
 have HBU := Lib.hid (vw_built s mp)
 rw [HSL.out] at HBU
 obtain ⟨CS, hCS⟩ : ∃ x, vwC s mp = x := ⟨_, rfl⟩
 rw [hCS] at HBU hx8
 have hwm : IntKind.u32.wrap (m : Int) = (m : Int) := by rw [IntKind.wrap_u32]; omega
 clear hb7 hb8 hh7 hh8 hw1 q4 hCS
 go_upto_region 6 with fail
 apply wp_region_lit
 repeat (first
  | (refine wpL_build (by kernel_rfl) 142 _ rfl #[(0, .agg SL.toArray), (1, .map (some mp))] (by simp only [List.map_toArray, List.map_cons, List.map_nil]; rfl) CS HBU.out ?_; refine Hid.out ?_)
  | (refine wpList_load_mid rfl 72 _ rfl xb 0 rfl SL _ HRX.out Tryz.underlying72 rfl HIS.out ?_)
  | go_step)
 refine Lib.hid ?_
 repeat go_step
 clear hmm d1 hwm hx7 hx8 hmp hV
 go_loopw [38] (fun v wr => ∃ i : Nat, i ≤ m ∧ v = .int .u32 (i : Int) ∧ Below x8.heap.size x8 wr) (fun v _ => m - (Go.RowKit.intOf v).toNat)
 case atStart => exact ⟨0, by omega, rfl, Below.refl _ _⟩
 case round =>
  obtain ⟨i, hi, rfl, hbr⟩ := hrel
  have HBR := Lib.hid hbr
  have HBW := Lib.hid (bthn HB8.out hbr)
  clear hbr
  by_cases hlt : i < m
  ·obtain ⟨hrl, k4, k5, h4, h5, hkk⟩ := HND.out i hlt
   have CRD := sread_at n0 wr B iv jv d (HDK.out.below HBW.out) (2 + i) (by have := HSC.out; omega) HNN.out
   rw [show ((2 + i : Nat) : Int) = 2 + (i : Int) by omega] at CRD
   have CBO : Hid (∀ X, Calls Tryz.prog 112 #[.int .u32 (i : Int), bA (rdB d.img (2 + i))] X fun e w' => e = .returned (.tuple #[.agg #[.int .i64 0, .int .u64 0, .slice none 0 0, .slice none 0 0], .int .i64 4]) ∧ Below X.heap.size X w') := Lib.hid (fun X => bof_bad X (i : Int) _ hrl k4 k5 h4 h5 hkk)
   have HRL := Lib.hid hrl
   obtain ⟨bb, hbb⟩ : ∃ b, rdB d.img (2 + i) = b := ⟨_, rfl⟩
   rw [hbb] at CRD CBO HRL
   obtain ⟨LB, hL⟩ : ∃ L, bV bb = L := ⟨_, rfl⟩
   have HLL : Hid (LB.length = 256) := Lib.hid (by rw [← hL, bV_len, HRL.out])
   have HL1 : Hid (∀ u ∈ LB, u.oneCell' = true) := Lib.hid (by rw [← hL]; exact bV_one bb)
   rw [show bA bb = .agg (bV bb).toArray from rfl, hL] at CRD CBO
   clear hrl h4 h5 hkk hbb hL
   have hwr2 : IntKind.i64.wrap (2 + (i : Int)) = 2 + (i : Int) := IntWalk.i64_in _ ⟨by omega, by omega⟩
   go_wp2_with fail
   refine CRD.mono ?_
   rintro e x1 ⟨rfl, hb1⟩
   dsimp only
   have hst := run_storeNew (P := Tryz.prog) x1 78 Tryz.zeroCells78 LB.toArray (by rw [show LB.toArray.size = 256 from by rw [List.size_toArray]; exact HLL.out]; kernel_rfl) (fun u hu => HL1.out u (by simpa using hu))
   obtain ⟨x2, hx2⟩ : ∃ W, x1.alloc (.cells LB.toArray 78) = W := ⟨_, rfl⟩
   have hb2 : Below x1.heap.size x1 x2 := by rw [← hx2]; exact balloc (Below.refl _ _) _
   have HR2 : Hid (x2.rangeAt x1.heap.size 0 LB) := Lib.hid (rangeOf (by rw [← hx2]; exact heap_alloc_new _ _))
   have HB2 := Lib.hid (bthn hb1 hb2)
   have HIB : Hid ((Tryz.prog.info? 78).map (·.size) = some LB.length) := Lib.hid (by rw [HLL.out]; exact infoBlk)
   rw [hx2] at hst
   clear CRD hb1 hx2 hb2 hwr2
   have hll := HLL.out
   go_wp2_with (refine wpList_load_mid rfl 78 _ rfl x1.heap.size 0 rfl LB _ HR2.out Tryz.underlying78 rfl HIB.out ?_)
   refine (CBO.out x2).mono ?_
   rintro e x3 ⟨rfl, hb3⟩
   dsimp only
   have HB3' := Lib.hid (bthn HBR.out (bthn HB2.out (bthn hb3 (balloc (Below.refl _ _) (.cells #[.int .i64 0, .int .u64 0, .slice none 0 0, .slice none 0 0] 159)))))
   clear hb3 hst hll
   go_wp2_with fail
   go_roundw
   case rel => exact ⟨i + 1, by omega, by go_num, HB3'.out⟩
   case measure => simp [Go.RowKit.intOf]; omega
  ·obtain rfl : i = m := by omega
   go_wp2_with fail
   go_ret2
   exact ⟨V, mp, rfl, HVW.out.below HBR.out, by have := HGE.out; omega, HGE.out.1, by have := HGE.out; omega, HBW.out⟩
end Go.Proofs.YtgmahhdnjikdjaaGreat
/- A store in memory with its fresh nodes; ready, is, Node of a fresh block, walked. -/
namespace Go.Proofs.YtgmahhdnjikdjaaGreat
open Go.RowKit Go.Maps Wire
set_option linter.unusedVariables false
set_option linter.unusedSimpArgs false
/-- A node's blocks. -/
def obN (x : NdV) : List Nat := ob (slO x.g1 x.n1 x.c1) ++ ob (slO x.g2 x.n2 x.c2)
/-- A store's own blocks. -/
def stF (S mf md : Nat) (Fm Fd : List Nat) : List Nat := S :: mf :: md :: (Fm ++ Fd)
/-- A store in memory, with its fresh nodes. -/
structure StF (w : World) (S B pm pd mf md : Nat) (s : Su) (A D : M) (Fm Fd : List Nat) (l : List (Nat × (NdV × Nd))) : Prop where
 st : StB w S B pm pd mf md s A D Fm Fd false
 map : MapL w Tryz.prog 22 RNd .u32 (fun p : NdV × Nd => ndD p.1) mf l
 nd : ∀ p ∈ l, NdAt w 0 p.2.1 p.2.2
 sep : ∀ p ∈ l, ∀ j ∈ obN p.2.1, j ∉ stF S mf md Fm Fd
 mdl : md < w.heap.size
 nS : S ∉ mf :: md :: (Fm ++ Fd)
 nm : mf ∉ md :: (Fm ++ Fd)
 dj : ∀ k ∈ Fd, k ∉ Fm
theorem NdAt.at_ {w w' : World} {base : Nat} {x : NdV} {y : Nd} (h : NdAt w base x y) (hb : ∀ j ∈ obN x, w'.heap[j]? = w.heap[j]?) : NdAt w' base x y :=
 ⟨h.k, h.b, h.n1, h.n2, ownsRow_at h.r1 (fun j hj => hb j (List.mem_append_left _ hj)), ownsRow_at h.r2 (fun j hj => hb j (List.mem_append_right _ hj)), h.dj⟩
theorem NdAt.lt {w : World} {base : Nat} {x : NdV} {y : Nd} (h : NdAt w base x y) : ∀ j ∈ obN x, j < w.heap.size := fun j hj => by
 rcases List.mem_append.1 hj with h1 | h1
 ·exact ownsRow_lt h.r1 j h1
 ·exact ownsRow_lt h.r2 j h1
section
variable {w w' : World} {S B pm pd mf md : Nat} {s : Su} {A D : M} {Fm Fd : List Nat} {l : List (Nat × (NdV × Nd))}
theorem StF.below (h : StF w S B pm pd mf md s A D Fm Fd l) (hb : Below w.heap.size w w') : StF w' S B pm pd mf md s A D Fm Fd l :=
 ⟨h.st.below hb, h.map.below hb, fun p hp => (h.nd p hp).at_ (fun j hj => hb.block j ((h.nd p hp).lt j hj)), h.sep, Nat.lt_of_lt_of_le h.mdl hb.size, h.nS, h.nm, h.dj⟩
theorem StF.lt (h : StF w S B pm pd mf md s A D Fm Fd l) : ∀ j ∈ stF S mf md Fm Fd, j < w.heap.size := fun j hj => by
 rcases List.mem_cons.1 hj with rfl | hj
 ·exact (Array.getElem?_eq_some_iff.1 h.st.box).1
 ·rcases List.mem_cons.1 hj with rfl | hj
  ·exact h.map.lt
  ·rcases List.mem_cons.1 hj with rfl | hj
   ·exact h.mdl
   ·rcases List.mem_append.1 hj with hj | hj
    ·exact h.st.ma.lt _ hj
    ·exact h.st.da.lt _ hj
def ndO : NdV := ⟨0, 0, none, 0, 0, none, 0, 0⟩
end
end Go.Proofs.YtgmahhdnjikdjaaGreat
/- store.Node of a fresh block, walked. -/
namespace Go.Proofs.YtgmahhdnjikdjaaGreat
open Go.RowKit Go.Maps Wire
set_option linter.unusedVariables false
set_option linter.unusedSimpArgs false
theorem NdAt.ge {w : World} {base : Nat} {x : NdV} {y : Nd} (h : NdAt w base x y) : ∀ j ∈ obN x, base ≤ j := fun j hj => by
 rcases List.mem_append.1 hj with h1 | h1
 ·exact ownsRow_ge h.r1 j h1
 ·exact ownsRow_ge h.r2 j h1
theorem NdAt.base {w : World} {b b' : Nat} {x : NdV} {y : Nd} (h : NdAt w b x y) (hb : b' ≤ b) : NdAt w b' x y := ⟨h.k, h.b, h.n1, h.n2, ownsRow_base h.r1 hb, ownsRow_base h.r2 hb, h.dj⟩
/-- What Node leaves. -/
def NodeP (w : World) (y : Nd) (e : Ending) (w' : World) : Prop := ∃ x, e = .returned (.tuple #[ndA x, .int .i64 0]) ∧ NdAt w' w.heap.size x y ∧ Below w.heap.size w w'
end Go.Proofs.YtgmahhdnjikdjaaGreat
/- store.New, walked. -/
namespace Go.Proofs.YtgmahhdnjikdjaaGreat
open Go.RowKit Go.Maps Wire
set_option linter.unusedVariables false
set_option linter.unusedSimpArgs false
section
variable {w w' : World} {S B pm pd mf md : Nat} {s : Su} {A A' D D' : M} {Fm Fd : List Nat} {l : List (Nat × (NdV × Nd))}
theorem StF.S_ne (h : StF w S B pm pd mf md s A D Fm Fd l) : S ≠ mf ∧ S ≠ md ∧ S ∉ Fm ∧ S ∉ Fd := by
 have := h.nS
 simp only [List.mem_cons, List.mem_append, not_or] at this
 exact ⟨this.1, this.2.1, this.2.2.1, this.2.2.2⟩
theorem StF.mf_ne (h : StF w S B pm pd mf md s A D Fm Fd l) : mf ≠ md ∧ mf ∉ Fm ∧ mf ∉ Fd := by
 have := h.nm
 simp only [List.mem_cons, List.mem_append, not_or] at this
 exact ⟨this.1, this.2.1, this.2.2⟩
/-- The meta area changed. -/
theorem StF.area (h : StF w S B pm pd mf md s A D Fm Fd l) (hm : Mods Fm w w') (ha : IA w' pm A' Fm) (ok : A'.Ok) (hl : A'.now.length = A.now.length) : StF w' S B pm pd mf md s A' D Fm Fd l :=
 ⟨⟨(hm.block _ (Array.getElem?_eq_some_iff.1 h.st.box).1 h.S_ne.2.2.1).trans h.st.box, ha, h.st.da.same (fun j hj => hm.block j (h.st.da.lt j hj) (h.dj j hj)), ok, h.st.dok, by rw [hl]; exact h.st.ml, h.st.dl, h.st.wf⟩, h.map.mods hm h.mf_ne.2.1, fun p hp => (h.nd p hp).at_ (fun j hj => hm.block j ((h.nd p hp).lt j hj) (fun hh => h.sep p hp j hj (by simp [stF, hh]))), h.sep, Nat.lt_of_lt_of_le h.mdl hm.size, h.nS, h.nm, h.dj⟩
/-- Its map of fresh nodes changed. -/
theorem StF.fresh {l' : List (Nat × (NdV × Nd))} (h : StF w S B pm pd mf md s A D Fm Fd l) (hm : Mods [mf] w w') (hl : MapL w' Tryz.prog 22 RNd .u32 (fun p : NdV × Nd => ndD p.1) mf l') (hn : ∀ p ∈ l', (NdAt w 0 p.2.1 p.2.2 ∧ ∀ j ∈ obN p.2.1, j ∉ stF S mf md Fm Fd)) : StF w' S B pm pd mf md s A D Fm Fd l' :=
 ⟨⟨(hm.block _ (Array.getElem?_eq_some_iff.1 h.st.box).1 (fun hh => h.S_ne.1 (List.mem_singleton.1 hh))).trans h.st.box, h.st.ma.same (fun j hj => hm.block j (h.st.ma.lt j hj) (fun hh => h.mf_ne.2.1 (by rw [← List.mem_singleton.1 hh]; exact hj))), h.st.da.same (fun j hj => hm.block j (h.st.da.lt j hj) (fun hh => h.mf_ne.2.2 (by rw [← List.mem_singleton.1 hh]; exact hj))), h.st.mok, h.st.dok, h.st.ml, h.st.dl, h.st.wf⟩, hl, fun p hp => (hn p hp).1.at_ (fun j hj => hm.block j ((hn p hp).1.lt j hj) (fun hh => (hn p hp).2 j hj (by simp [stF, List.mem_singleton.1 hh]))), fun p hp => (hn p hp).2, Nat.lt_of_lt_of_le h.mdl hm.size, h.nS, h.nm, h.dj⟩
end
section
variable {w w' : World} {S B pm pd mf md : Nat} {s : Su} {A D : M} {Fm Fd : List Nat} {l : List (Nat × (NdV × Nd))}
/-- Other blocks changed. -/
theorem StF.other {F : List Nat} (h : StF w S B pm pd mf md s A D Fm Fd l) (hm : Mods F w w') (h1 : ∀ k ∈ stF S mf md Fm Fd, k ∉ F) (h2 : ∀ p ∈ l, ∀ j ∈ obN p.2.1, j ∉ F) : StF w' S B pm pd mf md s A D Fm Fd l :=
 ⟨⟨(hm.block _ (Array.getElem?_eq_some_iff.1 h.st.box).1 (h1 S (by simp [stF]))).trans h.st.box, h.st.ma.same (fun j hj => hm.block j (h.st.ma.lt j hj) (h1 j (by simp [stF, hj]))), h.st.da.same (fun j hj => hm.block j (h.st.da.lt j hj) (h1 j (by simp [stF, hj]))), h.st.mok, h.st.dok, h.st.ml, h.st.dl, h.st.wf⟩, h.map.mods hm (h1 mf (by simp [stF])), fun p hp => (h.nd p hp).at_ (fun j hj => hm.block j ((h.nd p hp).lt j hj) (h2 p hp j hj)), h.sep, Nat.lt_of_lt_of_le h.mdl hm.size, h.nS, h.nm, h.dj⟩
end
/-- What New leaves. -/
def NewP (w : World) (S B pm pd mf md : Nat) (s : Su) (A D : M) (Fm Fd : List Nat) (l : List (Nat × (NdV × Nd))) (y : Nd) (i : Nat) (e : Ending) (w' : World) : Prop := ∃ x, e = .returned (.tuple #[.int .u32 (i : Int), .int .i64 0]) ∧ StF w' S B pm pd mf md s (allocM A i) D Fm Fd (putA i (x, { y with b := s.tx + 1 }) l) ∧ Mods (mf :: Fm) w w' ∧ ∀ j ∈ obN x, w.heap.size ≤ j
end Go.Proofs.YtgmahhdnjikdjaaGreat
/- store.Put, walked. -/
namespace Go.Proofs.YtgmahhdnjikdjaaGreat
open Go.RowKit Go.Maps Wire
set_option linter.unusedVariables false
set_option linter.unusedSimpArgs false
/-- What Put leaves. -/
def PutP (w : World) (S B pm pd mf md : Nat) (s : Su) (A D : M) (Fm Fd : List Nat) (l : List (Nat × (NdV × Nd))) (y : Nd) (i b : Nat) (e : Ending) (w' : World) : Prop := ∃ x, e = .returned (.int .i64 0) ∧ StF w' S B pm pd mf md s A D Fm Fd (putA i (x, { y with b := b }) l) ∧ Mods [mf] w w' ∧ ∀ j ∈ obN x, w.heap.size ≤ j
end Go.Proofs.YtgmahhdnjikdjaaGreat
/- store.Free of a fresh block, walked. -/
namespace Go.Proofs.YtgmahhdnjikdjaaGreat
open Go.RowKit Go.Maps Wire
set_option linter.unusedVariables false
set_option linter.unusedSimpArgs false
/-- What Free leaves. -/
def FreeP (w : World) (S B pm pd mf md : Nat) (s : Su) (A D : M) (Fm Fd : List Nat) (l : List (Nat × (NdV × Nd))) (i : Nat) (e : Ending) (w' : World) : Prop := e = .returned (.int .i64 0) ∧ StF w' S B pm pd mf md s { A with now := A.now.set i 0 } D Fm Fd (delA i l) ∧ Mods (mf :: Fm) w w'
end Go.Proofs.YtgmahhdnjikdjaaGreat
