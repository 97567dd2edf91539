import Derived.Test.YtgmahhdnjikdjaaGreatPG24
import Derived.Test.YtgmahhdnjikdjaaGreatPG28
import Derived.Test.YtgmahhdnjikdjaaGreatProg
import Derived.Test.YtgmahhdnjikdjaaGreatPG1
set_option linter.unusedVariables false
set_option linter.unusedSimpArgs false
/- super: Read and Load of a disk that has no sectors (none is there, or it is empty), walked. -/
namespace Go.Proofs.YtgmahhdnjikdjaaGreat
open Go.RowKit Wire
set_option linter.unusedVariables false
set_option linter.unusedSimpArgs false
/-- A disk that has no sectors. -/
def Sec0 (w : World) (a : Option Addr) : Prop := ∀ X, Below w.heap.size w X → Calls Tryz.prog 66 #[.pointer a] X fun e w' => e = .returned (.int .i64 0) ∧ X = w'
theorem Sec0.below {w w' : World} {a : Option Addr} (h : Sec0 w a) (hb : Below w.heap.size w w') : Sec0 w' a := fun X hX => h X (bthn hb hX)
theorem sec0_nil (w : World) : Sec0 w none := fun X _ => dsec_nil X
theorem sec0_box (w : World) (B : Nat) (h : w.heap[B]? = some (.cells #[.slice none 0 0, .slice none 0 0, .int .i64 0, .bool false] 67 (0, 0))) : Sec0 w (some ⟨B, 0, none⟩) := fun X hX => dsec_at 0 X B (.slice none 0 0) (.slice none 0 0) ⟨[], [], 0, false⟩ ⟨(hX.block _ (Array.getElem?_eq_some_iff.1 h).1).trans h, World.ownsRow_nil _ _ _ _, World.ownsRow_nil _ _ _ _, (fun s hs => by cases hs), (fun p hp => by cases hp), Nat.zero_le _⟩
set_option maxRecDepth 100000 in
set_option maxHeartbeats 3200000 in
theorem shas_0 (w : World) (a : Option Addr) (k : Int) (h : Sec0 w a) : Calls Tryz.prog 68 #[.pointer a, .int .i64 k] w fun e w' => e = .returned (.int .i64 1) ∧ w = w' := by
 have CS := h w (Below.refl _ _)
 clear h
 go_enter Tryz.func68, Tryz.ntmps68
 go_wp2_with fail
 refine CS.mono ?_
 rintro e w2 ⟨rfl, rfl⟩
 clear CS
 go_wp2_with fail
 go_ret
 exact ⟨rfl, rfl⟩
set_option maxRecDepth 100000 in
set_option maxHeartbeats 6400000 in
theorem sread_0 (w : World) (a : Option Addr) (k : Int) (h : Sec0 w a) : Calls Tryz.prog 63 #[.pointer a, .int .i64 k] w fun e w' => e = .returned (.tuple #[bA (zeros 256), .int .i64 1]) ∧ Below w.heap.size w w' := by
 obtain ⟨w1, hw1⟩ : ∃ W, w.alloc (.cells Tryz.zeroCells78 78) = W := ⟨_, rfl⟩
 have hb1 : Below w.heap.size w w1 := by rw [← hw1]; exact balloc (Below.refl _ _) _
 have HX : Hid (w1.heap[w.heap.size]? = some (.cells (bV (zeros 256)).toArray 78 (0, 0))) := Lib.hid (by
  have e : (bV (zeros 256)).toArray = Tryz.zeroCells78 := by kernel_rfl
  rw [e, ← hw1]; exact heap_alloc_new _ _)
 have CH := shas_0 w1 a k (h.below hb1)
 have HB1 := Lib.hid hb1
 obtain ⟨R, hR⟩ : ∃ R, zeros 256 = R := ⟨_, rfl⟩
 have HRL : Hid (R.length = 256) := Lib.hid (by rw [← hR]; exact zeros_len 256)
 rw [hR] at HX ⊢
 clear h hb1 hR
 go_enter Tryz.func63, Tryz.ntmps63
 go_wp2_with fail
 (try rw [hw1])
 clear hw1
 refine CH.mono ?_
 rintro e w2 ⟨rfl, rfl⟩
 clear CH
 have hx := HX.out
 have hrb : (bV R).toArray.size = 256 := by rw [List.size_toArray, bV_len, HRL.out]
 have HRG : Hid (w1.rangeAt w.heap.size 0 (bV R)) := Lib.hid (rangeOf hx)
 have HTH : Hid (w1.there w.heap.size 0 256) := Lib.hid (thereOf hx (by rw [hrb]; exact Nat.le_refl _))
 clear hx
 go_wp2_with (first
  | (refine wpList_load_mid rfl 78 _ rfl w.heap.size 0 rfl (bV R) _ HRG.out Tryz.underlying78 rfl (by rw [bV_len, HRL.out]; exact infoBlk) ?_)
  | (refine wpList_store_mid rfl 78 _ _ rfl w.heap.size 0 (bV R).toArray rfl rfl (by rw [hrb]; exact HTH.out) (by rw [hrb]; exact infoBlk) (blk_one R) ?_))
 have HB2 : Hid (Below w.heap.size w (w1.setCells w.heap.size 0 (bV R))) := Lib.hid (belowSets (Nat.le_refl _) _ _ _ HB1.out)
 refine bodyPost_ret (v := .tuple #[bA R, .int .i64 1]) (res_blk rfl _ _ w.heap.size R _ rfl rfl (World.rangeAt_setCells_same _ _ _ _ (by rw [bV_len, HRL.out]; exact HTH.out)) HRL.out) rfl ⟨rfl, HB2.out⟩
set_option maxRecDepth 100000 in
set_option maxHeartbeats 12800000 in
theorem sload_0 (w : World) (a : Option Addr) (h : Sec0 w a) : Calls Tryz.prog 27 #[.pointer a] w fun e w' => e = .returned (.tuple #[.agg suZ.toArray, .int .i64 1]) ∧ Below w.heap.size w w' := by
 have HS := Lib.hid h
 obtain ⟨w1, hw1⟩ : ∃ W, w.alloc (.cells #[.int .u64 0, .int .i64 0, .int .i64 0, .int .u32 0, .int .u32 0, .int .u32 0, .int .u32 0, .int .u32 0, .int .u32 0, .int .u32 0, .int .u32 0, .int .u32 0, .int .i64 0, .int .u64 0, .int .u64 0, .int .u64 0, .int .u64 0, .int .u64 0, .bool false] 72) = W := ⟨_, rfl⟩
 have HB1 : Hid (Below w.heap.size w w1) := Lib.hid (by rw [← hw1]; exact balloc (Below.refl _ _) _)
 have HX1 : Hid (w1.heap[w.heap.size]? = some (.cells (suL suO).toArray 72 (0, 0))) := Lib.hid (by rw [← hw1]; exact suO_box _)
 obtain ⟨w2, hw2⟩ : ∃ W, w1.alloc (.cells #[.int .u64 0, .int .i64 0, .int .i64 0, .int .u32 0, .int .u32 0, .int .u32 0, .int .u32 0, .int .u32 0, .int .u32 0, .int .u32 0, .int .u32 0, .int .u32 0, .int .i64 0, .int .u64 0, .int .u64 0, .int .u64 0, .int .u64 0, .int .u64 0, .bool false] 72) = W := ⟨_, rfl⟩
 have HB2 : Hid (Below w.heap.size w w2) := Lib.hid (by rw [← hw2]; exact balloc HB1.out _)
 have HX2 : Hid (w2.heap[w.heap.size]? = some (.cells (suL suO).toArray 72 (0, 0))) := Lib.hid (by rw [← hw2]; exact ((balloc (Below.refl _ w1) _).block _ (Array.getElem?_eq_some_iff.1 HX1.out).1).trans HX1.out)
 obtain ⟨R, hR⟩ : ∃ R, zeros 256 = R := ⟨_, rfl⟩
 have HRL : Hid (R.length = 256) := Lib.hid (by rw [← hR]; exact zeros_len 256)
 clear h
 go_enter Tryz.func27, Tryz.ntmps27
 go_wp2_with fail
 (try rw [hw1])
 (try rw [hw2])
 clear hw1 hw2
 go_loopw [9] (fun v wr => v = .int .i64 0 ∧ w2 = wr) (fun _ _ => 0)
 case atStart => exact ⟨rfl, rfl⟩
 case round =>
  obtain ⟨rfl, rfl⟩ := hrel
  have CR := sread_0 w2 a 0 (HS.out.below HB2.out)
  rw [hR] at CR
  clear hR
  go_wp2_with fail
  refine CR.mono ?_
  rintro e x1 ⟨rfl, hb1⟩
  have hrb : (bV R).toArray.size = 256 := by rw [List.size_toArray, bV_len, HRL.out]
  have hst := run_storeNew (P := Tryz.prog) x1 78 Tryz.zeroCells78 (bV R).toArray (by rw [hrb]; kernel_rfl) (fun u hu => bV_one R u (by simpa using hu))
  obtain ⟨x2, hx2⟩ : ∃ W, x1.alloc (.cells (bV R).toArray 78) = W := ⟨_, rfl⟩
  have hb2 : Below x1.heap.size x1 x2 := by rw [← hx2]; exact balloc (Below.refl _ _) _
  have HB3 := Lib.hid (bthn HB2.out (bthn hb1 hb2))
  have HX3 : Hid (x2.heap[w.heap.size]? = some (.cells (suL suO).toArray 72 (0, 0))) := Lib.hid (((bthn hb1 hb2).block _ (Array.getElem?_eq_some_iff.1 HX2.out).1).trans HX2.out)
  have HTH : Hid (x2.there w.heap.size 0 19) := Lib.hid (thereOf HX3.out (by simp [suL_len]))
  rw [show bA R = .agg (bV R).toArray from rfl]
  rw [hx2] at hst
  clear CR hb1 hx2 hb2
  go_upto_region 7 with fail
  apply wp_region_lit
  refine wpL_build0 (by kernel_rfl) 72 rfl suZ.toArray suZ_built ?_
  iterate 3 go_step
  refine wpList_store_mid rfl 72 _ _ rfl w.heap.size 0 suZ.toArray rfl rfl HTH.out infoSup (by kernel_rfl) ?_
  repeat go_step
  refine bodyPost_ret (v := .tuple #[.agg suZ.toArray, .int .i64 1]) (res_sup rfl _ _ w.heap.size suZ _ rfl rfl (World.rangeAt_setCells_same _ _ _ _ HTH.out) infoSup) rfl ⟨rfl, ?_⟩
  exact belowSets (Nat.le_refl _) _ _ _ HB3.out
end Go.Proofs.YtgmahhdnjikdjaaGreat
/- repair: Look, Disk, Tree, Volumes; thin.Format; walked. -/
namespace Go.Proofs.YtgmahhdnjikdjaaGreat
open Go.RowKit Wire
set_option linter.unusedVariables false
set_option linter.unusedSimpArgs false
theorem res_agt {P : Program} {fn : Func} {p q : Tmp} {ty : TypeId} (h : fn.results = #[.cell p ty, .tmp q]) (tmps : Array Value) (w : World) (g : Nat) (L : List Value) (x : Value) (d : TypeDesc) (hp : tmps.getD p undef = .pointer (some ⟨g, 0, none⟩)) (hq : tmps.getD q undef = x) (hr : w.rangeAt g 0 L) (hu : P.underlying ty = some d) (hd : d.isRow = true) (hl : (P.info? ty).map (·.size) = some L.length) :
  (results fn tmps).run P w = .ok (.tuple #[.agg L.toArray, x]) w := by
 have hp' : tmps[p]?.getD undef = .pointer (some ⟨g, 0, none⟩) := by simpa using hp
 have hq' : tmps[q]?.getD undef = x := by simpa using hq
 simp [results, h, hp', hq', asAddr, run_loadVar_mid w g 0 ty L d hr hu hd hl]
set_option maxRecDepth 100000 in
set_option maxHeartbeats 6400000 in
theorem look_err (w : World) (a : Option Addr) (er : Int) (he : er ≠ 0) (hc : ∀ X, Below w.heap.size w X → Calls Tryz.prog 57 #[.pointer a] X fun e w' => e = .returned (.tuple #[.pointer none, .int .i64 er]) ∧ Below X.heap.size X w') :
  Calls Tryz.prog 23 #[.pointer a] w fun e w' => e = .returned (.tuple #[.agg #[.bool false, .slice none 0 0, .slice none 0 0], .int .i64 er]) ∧ Below w.heap.size w w' := by
 have hez : (er == 0) = false := by simp [he]
 have hez2 : (er != 0) = true := by simp [he]
 obtain ⟨b, hb⟩ : ∃ b, w.heap.size = b := ⟨_, rfl⟩
 obtain ⟨w1, hw1⟩ : ∃ W, w.alloc (.cells #[.bool false, .slice none 0 0, .slice none 0 0] 56) = W := ⟨_, rfl⟩
 have hb1 : Below w.heap.size w w1 := by rw [← hw1]; exact balloc (Below.refl _ _) _
 have HX1 : Hid (w1.heap[b]? = some (.cells #[.bool false, .slice none 0 0, .slice none 0 0] 56 (0, 0))) := Lib.hid (by rw [← hw1, ← hb]; exact heap_alloc_new _ _)
 have C := hc w1 hb1
 have HB1 := Lib.hid hb1
 have HBG : Hid (w.heap.size ≤ b) := Lib.hid (by omega)
 clear hc hb1
 go_enter Tryz.func23, Tryz.ntmps23
 go_upto_region 1 with fail
 (try rw [hw1])
 (try rw [hb])
 clear hw1 hb
 go_wp2_with fail
 refine C.mono ?_
 rintro e w2 ⟨rfl, hb2⟩
 dsimp only
 have HB2 := Lib.hid (bthn HB1.out hb2)
 have hx2 := (hb2.block _ (Array.getElem?_eq_some_iff.1 HX1.out).1).trans HX1.out
 have HX2 := Lib.hid hx2
 have c0 := cellOf hx2 0 (v := .bool false) rfl
 have c1 := cellOf hx2 1 (v := .slice none 0 0) rfl
 have c2 := cellOf hx2 2 (v := .slice none 0 0) rfl
 have f0 := frozenOf hx2 0
 have f1 := frozenOf hx2 1
 have f2 := frozenOf hx2 2
 have HZ : Hid ((((w2.setCell ⟨b, 0, none⟩ (.bool false)).setCell ⟨b, 1, none⟩ (.slice none 0 0)).setCell ⟨b, 2, none⟩ (.slice none 0 0)).heap[b]? = some (.cells #[.bool false, .slice none 0 0, .slice none 0 0] 56 (0, 0))) := Lib.hid (setOf (setOf (setOf hx2 0 _) 1 _) 2 _)
 have HBZ : Hid (Below w.heap.size w (((w2.setCell ⟨b, 0, none⟩ (.bool false)).setCell ⟨b, 1, none⟩ (.slice none 0 0)).setCell ⟨b, 2, none⟩ (.slice none 0 0))) := Lib.hid (((HB2.out.setCell (p := ⟨b, 0, none⟩) HBG.out _).setCell (p := ⟨b, 1, none⟩) HBG.out _).setCell (p := ⟨b, 2, none⟩) HBG.out _)
 clear hb2 hx2
 clear C
 go_wp2_with fail
 refine bodyPost_ret (v := .tuple #[.agg #[.bool false, .slice none 0 0, .slice none 0 0], .int .i64 er]) (res_agt rfl _ _ b [.bool false, .slice none 0 0, .slice none 0 0] _ _ rfl rfl (rangeOf HZ.out) Tryz.underlying56 rfl (by kernel_rfl)) rfl ⟨rfl, HBZ.out⟩
set_option maxRecDepth 100000 in
set_option maxHeartbeats 6400000 in
theorem rdisk_err (w : World) (a : Option Addr) (er : Int) (he : er ≠ 0) (hc : ∀ X, Below w.heap.size w X → Calls Tryz.prog 57 #[.pointer a] X fun e w' => e = .returned (.tuple #[.pointer none, .int .i64 er]) ∧ Below X.heap.size X w') :
  Calls Tryz.prog 25 #[.pointer a] w fun e w' => e = .returned (.tuple #[.agg #[.bool false, .slice none 0 0, .slice none 0 0], .int .i64 er]) ∧ Below w.heap.size w w' := by
 have hez : (er == 0) = false := by simp [he]
 have hez2 : (er != 0) = true := by simp [he]
 obtain ⟨b, hb⟩ : ∃ b, w.heap.size = b := ⟨_, rfl⟩
 obtain ⟨w1, hw1⟩ : ∃ W, w.alloc (.cells #[.bool false, .slice none 0 0, .slice none 0 0] 56) = W := ⟨_, rfl⟩
 have hb1 : Below w.heap.size w w1 := by rw [← hw1]; exact balloc (Below.refl _ _) _
 have HX1 : Hid (w1.heap[b]? = some (.cells #[.bool false, .slice none 0 0, .slice none 0 0] 56 (0, 0))) := Lib.hid (by rw [← hw1, ← hb]; exact heap_alloc_new _ _)
 have C := hc w1 hb1
 have HB1 := Lib.hid hb1
 have HBG : Hid (w.heap.size ≤ b) := Lib.hid (by omega)
 clear hc hb1
 go_enter Tryz.func25, Tryz.ntmps25
 go_upto_region 1 with fail
 (try rw [hw1])
 (try rw [hb])
 clear hw1 hb
 go_wp2_with fail
 refine C.mono ?_
 rintro e w2 ⟨rfl, hb2⟩
 dsimp only
 have HB2 := Lib.hid (bthn HB1.out hb2)
 have hx2 := (hb2.block _ (Array.getElem?_eq_some_iff.1 HX1.out).1).trans HX1.out
 have HX2 := Lib.hid hx2
 have c0 := cellOf hx2 0 (v := .bool false) rfl
 have c1 := cellOf hx2 1 (v := .slice none 0 0) rfl
 have c2 := cellOf hx2 2 (v := .slice none 0 0) rfl
 have f0 := frozenOf hx2 0
 have f1 := frozenOf hx2 1
 have f2 := frozenOf hx2 2
 have HZ : Hid ((((w2.setCell ⟨b, 0, none⟩ (.bool false)).setCell ⟨b, 1, none⟩ (.slice none 0 0)).setCell ⟨b, 2, none⟩ (.slice none 0 0)).heap[b]? = some (.cells #[.bool false, .slice none 0 0, .slice none 0 0] 56 (0, 0))) := Lib.hid (setOf (setOf (setOf hx2 0 _) 1 _) 2 _)
 have HBZ : Hid (Below w.heap.size w (((w2.setCell ⟨b, 0, none⟩ (.bool false)).setCell ⟨b, 1, none⟩ (.slice none 0 0)).setCell ⟨b, 2, none⟩ (.slice none 0 0))) := Lib.hid (((HB2.out.setCell (p := ⟨b, 0, none⟩) HBG.out _).setCell (p := ⟨b, 1, none⟩) HBG.out _).setCell (p := ⟨b, 2, none⟩) HBG.out _)
 clear hb2 hx2
 clear C
 go_wp2_with fail
 refine bodyPost_ret (v := .tuple #[.agg #[.bool false, .slice none 0 0, .slice none 0 0], .int .i64 er]) (res_agt rfl _ _ b [.bool false, .slice none 0 0, .slice none 0 0] _ _ rfl rfl (rangeOf HZ.out) Tryz.underlying56 rfl (by kernel_rfl)) rfl ⟨rfl, HBZ.out⟩
set_option maxRecDepth 100000 in
set_option maxHeartbeats 6400000 in
theorem look_ok (w : World) (a : Option Addr) (s : Su) (hc : ∀ X, Below w.heap.size w X → Calls Tryz.prog 57 #[.pointer a] X (PlanP X s)) :
  Calls Tryz.prog 23 #[.pointer a] w fun e w' => e = .returned (.tuple #[.agg #[.bool false, .slice none 0 0, .slice none 0 0], .int .i64 0]) ∧ Below w.heap.size w w' := by
 obtain ⟨b, hb⟩ : ∃ b, w.heap.size = b := ⟨_, rfl⟩
 obtain ⟨w1, hw1⟩ : ∃ W, w.alloc (.cells #[.bool false, .slice none 0 0, .slice none 0 0] 56) = W := ⟨_, rfl⟩
 have hb1 : Below w.heap.size w w1 := by rw [← hw1]; exact balloc (Below.refl _ _) _
 have HX1 : Hid (w1.heap[b]? = some (.cells #[.bool false, .slice none 0 0, .slice none 0 0] 56 (0, 0))) := Lib.hid (by rw [← hw1, ← hb]; exact heap_alloc_new _ _)
 have C := hc w1 hb1
 have HB1 := Lib.hid hb1
 have HBG : Hid (w.heap.size ≤ b) := Lib.hid (by omega)
 clear hc hb1
 go_enter Tryz.func23, Tryz.ntmps23
 go_upto_region 1 with fail
 (try rw [hw1])
 (try rw [hb])
 clear hw1 hb
 go_wp2_with fail
 refine C.mono ?_
 rintro e w2 ⟨p, V, B, wy, rfl, hpp, hb2⟩
 dsimp only
 have HB2 := Lib.hid (bthn HB1.out hb2)
 have hx2 := (hb2.block _ (Array.getElem?_eq_some_iff.1 HX1.out).1).trans HX1.out
 have e25 : w2.cell? ⟨p, 25, none⟩ = some (.bool false) := cellOf hpp 25 rfl
 have e26 : w2.cell? ⟨p, 26, none⟩ = some (.slice none 0 0) := cellOf hpp 26 rfl
 have e27 : w2.cell? ⟨p, 27, none⟩ = some (.slice none 0 0) := cellOf hpp 27 rfl
 clear hpp
 have HX2 := Lib.hid hx2
 have c0 := cellOf hx2 0 (v := .bool false) rfl
 have c1 := cellOf hx2 1 (v := .slice none 0 0) rfl
 have c2 := cellOf hx2 2 (v := .slice none 0 0) rfl
 have f0 := frozenOf hx2 0
 have f1 := frozenOf hx2 1
 have f2 := frozenOf hx2 2
 have HZ : Hid ((((w2.setCell ⟨b, 0, none⟩ (.bool false)).setCell ⟨b, 1, none⟩ (.slice none 0 0)).setCell ⟨b, 2, none⟩ (.slice none 0 0)).heap[b]? = some (.cells #[.bool false, .slice none 0 0, .slice none 0 0] 56 (0, 0))) := Lib.hid (setOf (setOf (setOf hx2 0 _) 1 _) 2 _)
 have HBZ : Hid (Below w.heap.size w (((w2.setCell ⟨b, 0, none⟩ (.bool false)).setCell ⟨b, 1, none⟩ (.slice none 0 0)).setCell ⟨b, 2, none⟩ (.slice none 0 0))) := Lib.hid (((HB2.out.setCell (p := ⟨b, 0, none⟩) HBG.out _).setCell (p := ⟨b, 1, none⟩) HBG.out _).setCell (p := ⟨b, 2, none⟩) HBG.out _)
 clear hb2 hx2
 clear C
 go_wp2_with fail
 refine bodyPost_ret (v := .tuple #[.agg #[.bool false, .slice none 0 0, .slice none 0 0], .int .i64 0]) (res_agt rfl _ _ b [.bool false, .slice none 0 0, .slice none 0 0] _ _ rfl rfl (rangeOf HZ.out) Tryz.underlying56 rfl (by kernel_rfl)) rfl ⟨rfl, HBZ.out⟩
set_option maxRecDepth 100000 in
set_option maxHeartbeats 6400000 in
theorem rtree_err (w : World) (a : Option Addr) (er : Int) (he : er ≠ 0) (n k : Int) (hc : Calls Tryz.prog 58 #[.pointer a] w fun e w' => e = .returned (.tuple #[.pointer none, .int .i64 er]) ∧ Below w.heap.size w w') :
  Calls Tryz.prog 24 #[.pointer a, .int .u32 n, .int .i64 k] w fun e w' => e = .returned (.tuple #[.slice none 0 0, .bool false, .int .i64 er]) ∧ Below w.heap.size w w' := by
 have hez : (er == 0) = false := by simp [he]
 have hez2 : (er != 0) = true := by simp [he]
 go_enter Tryz.func24, Tryz.ntmps24
 go_wp2_with fail
 refine hc.mono ?_
 rintro e w1 ⟨rfl, hb1⟩
 dsimp only
 have HB1 := Lib.hid hb1
 clear hc hb1
 go_wp2_with fail
 go_ret3
 exact ⟨rfl, HB1.out⟩
set_option maxRecDepth 100000 in
set_option maxHeartbeats 6400000 in
theorem rvols_err (w : World) (a : Option Addr) (er : Int) (he : er ≠ 0) (n : Int) (hc : Calls Tryz.prog 58 #[.pointer a] w fun e w' => e = .returned (.tuple #[.pointer none, .int .i64 er]) ∧ Below w.heap.size w w') :
  Calls Tryz.prog 26 #[.pointer a, .int .i64 n] w fun e w' => e = .returned (.tuple #[.slice none 0 0, .int .i64 er]) ∧ Below w.heap.size w w' := by
 have hez : (er == 0) = false := by simp [he]
 have hez2 : (er != 0) = true := by simp [he]
 go_enter Tryz.func26, Tryz.ntmps26
 go_wp2_with fail
 refine hc.mono ?_
 rintro e w1 ⟨rfl, hb1⟩
 dsimp only
 have HB1 := Lib.hid hb1
 clear hc hb1
 go_wp2_with fail
 go_ret2
 exact ⟨rfl, HB1.out⟩
theorem rvols_3 (w : World) (a : Option Addr) (s : Su) (hc : Calls Tryz.prog 58 #[.pointer a] w (LiesP w s)) :
  Calls Tryz.prog 26 #[.pointer a, .int .i64 3] w fun e w' => e = .returned (.tuple #[.slice none 0 0, .int .i64 2]) ∧ Below w.heap.size w w' := by
 go_enter Tryz.func26, Tryz.ntmps26
 go_wp2_with fail
 refine hc.mono ?_
 rintro e w1 ⟨V, mp, rfl, hv, hV1, hV2, hV3, hb1⟩
 dsimp only
 have HB1 := Lib.hid hb1
 clear hc hb1 hv hV1 hV2 hV3
 go_wp2_with fail
 go_ret2
 exact ⟨rfl, HB1.out⟩
set_option maxRecDepth 100000 in
set_option maxHeartbeats 3200000 in
theorem tfmt_by (w : World) (a : Option Addr) (m k : Int) (Q : World → Prop) (hc : Calls Tryz.prog 47 #[.pointer a, .int .i64 m, .int .i64 k] w fun e w' => e = .returned (.int .i64 0) ∧ Q w') :
  Calls Tryz.prog 22 #[.pointer a, .int .i64 m, .int .i64 k] w fun e w' => e = .returned (.int .i64 0) ∧ Q w' := by
 go_enter Tryz.func22, Tryz.ntmps22
 go_wp2_with fail
 refine hc.mono ?_
 rintro e w1 ⟨rfl, hq⟩
 have HQ := Lib.hid hq
 clear hc hq
 go_wp2_with fail
 go_ret
 exact ⟨rfl, HQ.out⟩
end Go.Proofs.YtgmahhdnjikdjaaGreat
/- The number of keys that each node of a row has: repair.Split, the reference's Split and SameInts, walked. -/
namespace Go.Proofs.YtgmahhdnjikdjaaGreat
open Go.RowKit
set_option linter.unusedVariables false
/-- How many keys each node has. -/
def splitL (n k : Int) (m : Nat) : List Int := (List.range m).map fun (i : Nat) => n / k + if (i : Int) < n % k then 1 else 0
theorem splitL_succ (n k : Int) (m : Nat) : splitL n k (m + 1) = splitL n k m ++ [n / k + if (m : Int) < n % k then 1 else 0] := by
 simp [splitL, List.range_succ]
theorem infoInt : (Tryz.prog.info? 3).map (fun i => (i.zero, i.size, i.bytes)) = some (some (.int .i64 0), 1, 8) := by kernel_rfl
set_option maxRecDepth 100000 in
set_option maxHeartbeats 400000 in
theorem split_any (n : Int) (w : World) (h1 : 1 ≤ n) (h2 : n ≤ 10000000000) :
  Calls Tryz.prog 71 #[.int .i64 n] w fun e w' => ∃ v, e = .returned v ∧
   w'.ownsRow w.heap.size 3 1 v ((n + 5) / 6).toNat ((splitL n ((n + 5) / 6) ((n + 5) / 6).toNat).map (Value.int .i64)) ∧ Below w.heap.size w w' := by
 go_enter Tryz.func71, Tryz.ntmps71
 go_wp2
 obtain ⟨k, hk⟩ : ∃ k, k = (n + 5) / 6 := ⟨_, rfl⟩
 have hk' : (n + 6 - 1) / 6 = k := by omega
 rw [hk']
 have hk1 : 1 ≤ k := by omega
 have hk2 : k ≤ n := by omega
 have HK := Lib.hid hk
 clear hk hk'
 go_loopw [2, 4, 5, 13] (fun v _ _ i wr => ∃ m : Nat, (m : Int) ≤ k ∧ i = .int .i64 m ∧ wr.ownsRow w.heap.size 3 1 v m ((splitL n k m).map (Value.int .i64)) ∧ Below w.heap.size w wr)
  (fun _ _ _ i _ => (k - intOf i).toNat)
 case atStart => exact ⟨0, by omega, rfl, World.ownsRow_nil _ _ _ _, Below.refl _ _⟩
 case round =>
  obtain ⟨m, hm, rfl, hown, hbel⟩ := hrel
  have hq1 : 0 ≤ n / k := Int.ediv_nonneg (by omega) (by omega)
  have hq2 : n / k ≤ n := Int.ediv_le_self _ (by omega)
  have hws := hbel.size
  by_cases hlt : (m : Int) < k
  ·have hss := Lib.hid (splitL_succ n k m)
   by_cases hc : (m : Int) < n % k
   all_goals
    go_wp2_with (at_builtin; go_must (refine wpList_app rfl _ _ 53 rfl w.heap.size 3 _ 1 8 Tryz.underlying53 infoInt rfl (by decide) (by decide) _ m _ rfl hown rfl rfl (by simp [Value.oneCell']) (by omega) hws ?_); intro v' w1 ho1 hb1 _ _ _)
    go_roundw
    case rel =>
     refine ⟨m + 1, by omega, by go_num, ?_, hbel.trans hb1⟩
     rw [hss.out]
     simpa [hc] using ho1
    case measure => simp [intOf]; omega
  ·go_wp2
   obtain rfl : k = m := by omega
   go_ret
   refine ⟨_, rfl, ?_, hbel⟩
   rw [← HK.out]
   simpa using hown
set_option maxRecDepth 100000 in
set_option maxHeartbeats 400000 in
theorem sameInts_any (u v : Value) (n m : Nat) (xs ys : List Int) (w : World) (hu : Rd w 1 u n (xs.map (Value.int .i64))) (hv : Rd w 1 v m (ys.map (Value.int .i64))) :
  Calls Tryz.prog 70 #[u, v] w fun e w' => e = .returned (.bool (decide (xs = ys))) ∧ Below w.heap.size w w' := by
 obtain ⟨ao, ca, rfl, hl, hm, _, hc⟩ := hu
 obtain ⟨bo, cb, rfl, hl', hm', _, hc'⟩ := hv
 simp only [List.length_map, Nat.mul_one] at hl hl'
 unfold maxLen at hm hm'
 by_cases hnm : n = m
 ·subst hnm
  go_enter Tryz.func70, Tryz.ntmps70
  go_wp2
  go_loopw [5] (fun i wr => ∃ k : Nat, k ≤ n ∧ i = .int .i64 k ∧ xs.take k = ys.take k ∧ Below w.heap.size w wr) (fun i _ => n - (intOf i).toNat)
  case atStart => exact ⟨0, by omega, rfl, by simp, Below.refl _ _⟩
  case round =>
   obtain ⟨k, hk, rfl, htk, hbel⟩ := hrel
   by_cases hlt : k < n
   ·have hx : xs[k]? = some xs[k] := List.getElem?_eq_getElem (by omega)
    have hy : ys[k]? = some ys[k] := List.getElem?_eq_getElem (by omega)
    obtain ⟨x, hx⟩ : ∃ x, xs[k]? = some x := ⟨_, hx⟩
    obtain ⟨y, hy⟩ : ∃ y, ys[k]? = some y := ⟨_, hy⟩
    obtain ⟨b, off, rfl, hb, hcx⟩ := hc k (.int .i64 x) (by simp [hx])
    obtain ⟨b', off', rfl, hb', hcy⟩ := hc' k (.int .i64 y) (by simp [hy])
    have hcx' : wr.cell? ⟨b, off + k, none⟩ = some (.int .i64 x) := (hbel.cell (p := ⟨b, off + k, none⟩) hb).trans hcx
    have hcy' : wr.cell? ⟨b', off' + k, none⟩ = some (.int .i64 y) := (hbel.cell (p := ⟨b', off' + k, none⟩) hb').trans hcy
    have HX := Lib.hid hx
    have HY := Lib.hid hy
    have HT := Lib.hid htk
    clear hx hy hcx hcy htk hc hc'
    by_cases hxy : x = y
    ·subst hxy
     go_wp2
     go_quiet (fail)
     go_wp2
     go_roundw
     case rel =>
      exact ⟨k + 1, by omega, by go_num, by rw [List.take_add_one, List.take_add_one, HT.out, HX.out, HY.out], below_drewN hbel _⟩
     case measure => simp [intOf]; omega
    ·have hxy' : (x != y) = true := by simpa using hxy
     go_wp2
     go_quiet (fail)
     go_wp2
     go_ret
     refine ⟨?_, below_drewN hbel _⟩
     have : xs ≠ ys := by intro h; subst h; have := HX.out.symm.trans HY.out; simp at this; exact hxy this
     simp [this]
   ·go_wp2
    go_ret
    refine ⟨?_, hbel⟩
    have : xs = ys := by
     rw [List.take_of_length_le (by omega), List.take_of_length_le (by omega)] at htk
     exact htk
    simp [this]
 ·have hnm' : ((n : Int) != (m : Int)) = true := by simp; omega
  go_enter Tryz.func70, Tryz.ntmps70
  go_wp2
  go_ret
  have : xs ≠ ys := by intro h; subst h; omega
  exact ⟨by simp [this], Below.refl _ _⟩
end Go.Proofs.YtgmahhdnjikdjaaGreat
/- The law's known of layer 31 (of XSplitLaw). -/
namespace Go.Proofs.YtgmahhdnjikdjaaGreat
open Go.RowKit
set_option linter.unusedVariables false
theorem rd_lit1 (w : World) (a : Value) (t : TypeId) : Rd (w.alloc (.cells #[a] t)) 1 (.slice (some ⟨w.heap.size, 0, none⟩) 1 1) 1 [a] :=
 Rd.of_own (World.ownsRow_lit (base := 0) w #[a] 1 (Nat.zero_le _) (by decide) rfl)
theorem rd_lit2 (w : World) (a b : Value) (t : TypeId) : Rd (w.alloc (.cells #[a, b] t)) 1 (.slice (some ⟨w.heap.size, 0, none⟩) 2 2) 2 [a, b] :=
 Rd.of_own (World.ownsRow_lit (base := 0) w #[a, b] 2 (Nat.zero_le _) (by decide) rfl)
theorem rd_lit3 (w : World) (a b c : Value) (t : TypeId) : Rd (w.alloc (.cells #[a, b, c] t)) 1 (.slice (some ⟨w.heap.size, 0, none⟩) 3 3) 3 [a, b, c] :=
 Rd.of_own (World.ownsRow_lit (base := 0) w #[a, b, c] 3 (Nat.zero_le _) (by decide) rfl)
set_option maxRecDepth 100000 in
set_option maxHeartbeats 1000000 in
theorem known31 (w : World) : Calls Tryz.prog 30 #[] w fun e w' => e = .returned (.bool true) ∧ Below w.heap.size w w' := by
 go_enter Tryz.func30, Tryz.ntmps30
 go_wp2_with fail
 refine (split_any 5 _ (by omega) (by omega)).mono ?_
 rintro e w1 ⟨v1, rfl, ho1, hb1⟩
 have hr1 := Rd.of_own (ho1.alloc (.cells #[.int .i64 5] 3))
 have hl1 := rd_lit1 w1 (.int .i64 5) 3
 go_wp2_with fail
 refine (sameInts_any _ _ _ _ _ [5] _ hr1 hl1).mono ?_
 rintro e w2 ⟨rfl, hb2⟩
 have hd : decide (splitL 5 ((5 + 5) / 6) ((5 + 5) / 6 : Int).toNat = [5]) = true := by decide
 rw [hd]
 clear hr1 hl1
 go_wp2_with fail
 refine (split_any 7 _ (by omega) (by omega)).mono ?_
 rintro e w3 ⟨v3, rfl, ho3, hb3⟩
 have hr1 := Rd.of_own (ho3.alloc (.cells #[.int .i64 4, .int .i64 3] 3))
 have hl1 := rd_lit2 w3 (.int .i64 4) (.int .i64 3) 3
 go_wp2_with fail
 refine (sameInts_any _ _ _ _ _ [4, 3] _ hr1 hl1).mono ?_
 rintro e w4 ⟨rfl, hb4⟩
 have hd : decide (splitL 7 ((7 + 5) / 6) ((7 + 5) / 6 : Int).toNat = [4, 3]) = true := by decide
 rw [hd]
 clear hr1 hl1
 go_wp2_with fail
 refine (split_any 13 _ (by omega) (by omega)).mono ?_
 rintro e w5 ⟨v5, rfl, ho5, hb5⟩
 have hr1 := Rd.of_own (ho5.alloc (.cells #[.int .i64 5, .int .i64 4, .int .i64 4] 3))
 have hl1 := rd_lit3 w5 (.int .i64 5) (.int .i64 4) (.int .i64 4) 3
 go_wp2_with fail
 refine (sameInts_any _ _ _ _ _ [5, 4, 4] _ hr1 hl1).mono ?_
 rintro e w6 ⟨rfl, hb6⟩
 have hd : decide (splitL 13 ((13 + 5) / 6) ((13 + 5) / 6 : Int).toNat = [5, 4, 4]) = true := by decide
 rw [hd]
 clear hr1 hl1
 go_wp2_with fail
 go_ret
 exact ⟨rfl, bthen (balloc (bthen (bthen (balloc (bthen (bthen (balloc hb1 _) hb2) hb3) _) hb4) hb5) _) hb6⟩
end Go.Proofs.YtgmahhdnjikdjaaGreat
/- What RepairNil's disks answer; RepairNil, walked. -/
namespace Go.Proofs.YtgmahhdnjikdjaaGreat
open Go.RowKit Wire
set_option linter.unusedVariables false
set_option linter.unusedSimpArgs false
def dO : Dk := (dk0 40).saved sA
theorem dO_len : dO.img.length = 40 := by unfold dO; rw [saved_img, wrB_len, dk0_len]
theorem sA_tx : sA.tx % 2 = 1 := rfl
theorem dO_slots : ∀ i, i < 2 → OfR (rdB dO.img i) (slotF 60 8 i) (slotE i) := fun i hi => by
 rcases (show i = 0 ∨ i = 1 by omega) with rfl | rfl
 ·have e : rdB dO.img 0 = zeros 256 := by
   unfold dO
   rw [saved_img, rd_wr_other (by rw [dk0_len]; omega) (by rw [sA_tx]; omega), zeros_dk0 40 0 (by omega)]
  rw [e]
  exact ofr_zero
 ·have e : rdB dO.img 1 = sA.bytes := by
   unfold dO
   rw [saved_img, sA_tx, rd_wr (Su.bytes_len sA_wf.2.1) (by rw [dk0_len]; omega)]
  rw [e]
  exact ofr_su _ sA_wf sA_may
theorem load_o (n0 : Nat) (w : World) (B : Nat) (iv jv : Value) (h : DkAt n0 w B iv jv (dk0 40)) : Calls Tryz.prog 27 #[.pointer (some ⟨B, 0, none⟩)] w fun e w' => e = .returned (.tuple #[.agg suZ.toArray, .int .i64 6]) ∧ Below w.heap.size w w' :=
 sload_none n0 w B iv jv (dk0 40) h (by rw [dk0_len]; omega) (by rw [dk0_len]; omega) (fun _ => suO) (fun _ => 4) (fun i hi => by
  show OfR (rdB (dk0 40).img i) suO 4
  rw [zeros_dk0 40 i (by omega)]
  exact ofr_zero) (fun i hi => by show (0 : Nat) < _; decide) rfl
theorem lies_o (n0 : Nat) (w : World) (B : Nat) (iv jv : Value) (h : DkAt n0 w B iv jv (dk0 40)) : Calls Tryz.prog 58 #[.pointer (some ⟨B, 0, none⟩)] w fun e w' => e = .returned (.tuple #[.pointer none, .int .i64 6]) ∧ Below w.heap.size w w' :=
 lies_err w _ 6 (by decide) (load_o n0 w B iv jv h)
theorem lies_0 (w : World) (a : Option Addr) (h : Sec0 w a) : Calls Tryz.prog 58 #[.pointer a] w fun e w' => e = .returned (.tuple #[.pointer none, .int .i64 1]) ∧ Below w.heap.size w w' :=
 lies_err w a 1 (by decide) (sload_0 w a h)
theorem lies_O (n0 : Nat) (w : World) (B : Nat) (iv jv : Value) (h : DkAt n0 w B iv jv dO) : Calls Tryz.prog 58 #[.pointer (some ⟨B, 0, none⟩)] w fun e w' => e = .returned (.tuple #[.pointer none, .int .i64 2]) ∧ Below w.heap.size w w' :=
 lies_small n0 w B iv jv dO h sA 60 8 rfl rfl (by omega) (by omega) (by rw [dO_len]; omega) (by rw [dO_len]; omega) (by rw [dO_len]; omega) (slotF 60 8) slotE dO_slots (slot_tx 60 8) (slot_best 60 8) (by show (1 : Nat) ≠ 0; omega)
theorem lies_A (n0 : Nat) (w : World) (B : Nat) (iv jv : Value) (h : DkAt n0 w B iv jv dA) : Calls Tryz.prog 58 #[.pointer (some ⟨B, 0, none⟩)] w (LiesP w sA) :=
 lies_ok n0 w B iv jv dA h sA 60 8 rfl rfl (by omega) (by omega) (by rw [dA_len]; omega) (by rw [dA_len]; omega) (slotF 60 8) slotE (fmt_slots (dk0_len 400) okA) (slot_tx 60 8) (slot_best 60 8) (by show (1 : Nat) ≠ 0; omega) dA_noNd
theorem load_A (n0 : Nat) (w : World) (B : Nat) (iv jv : Value) (h : DkAt n0 w B iv jv dA) : Calls Tryz.prog 27 #[.pointer (some ⟨B, 0, none⟩)] w fun e w' => e = .returned (.tuple #[.agg (suL sA).toArray, .int .i64 0]) ∧ Below w.heap.size w w' := by
 have h1 := sload_at n0 w B iv jv dA h (by rw [dA_len]; omega) (by rw [dA_len]; omega) (slotF 60 8) slotE (fmt_slots (dk0_len 400) okA) (slot_tx 60 8) (by rw [slot_best]; show (1 : Nat) ≠ 0; omega)
 rw [slot_best, suL_v] at h1
 exact h1
theorem sX_tx : sX.tx = 4611686018427387904 := rfl
theorem lies_X (n0 : Nat) (w : World) (B : Nat) (iv jv : Value) (h : DkAt n0 w B iv jv dX) : Calls Tryz.prog 58 #[.pointer (some ⟨B, 0, none⟩)] w (LiesP w sX) :=
 lies_ok n0 w B iv jv dX h sX 60 8 dX_ok.sm dX_ok.sk (by omega) (by omega) (by rw [dX_len]; omega) (by rw [dX_len]; omega) slX _ dX_slots slX_tx slX_best (by rw [sX_tx]; omega) dX_noNd
theorem lies_Y (n0 : Nat) (w : World) (B : Nat) (iv jv : Value) (h : DkAt n0 w B iv jv dY) : Calls Tryz.prog 58 #[.pointer (some ⟨B, 0, none⟩)] w (LiesP w sX) :=
 lies_ok n0 w B iv jv dY h sX 60 8 dX_ok.sm dX_ok.sk (by omega) (by omega) (by rw [dY_len]; omega) (by rw [dY_len]; omega) slX _ dY_slots slX_tx slX_best (by rw [sX_tx]; omega) dY_noNd
def MdP (er : Int) (w : World) (e : Ending) (w' : World) : Prop := e = .returned (.tuple #[.agg #[.bool false, .slice none 0 0, .slice none 0 0], .int .i64 er]) ∧ Below w.heap.size w w'
theorem look_o (n0 : Nat) (w : World) (B : Nat) (iv jv : Value) (h : DkAt n0 w B iv jv (dk0 40)) : Calls Tryz.prog 23 #[.pointer (some ⟨B, 0, none⟩)] w (MdP 6 w) :=
 look_err w _ 6 (by decide) (fun X hX => planned_err X _ 6 (by decide) (lies_o n0 X B iv jv (h.below hX)))
theorem disk_0 (w : World) (a : Option Addr) (h : Sec0 w a) : Calls Tryz.prog 25 #[.pointer a] w (MdP 1 w) :=
 rdisk_err w a 1 (by decide) (fun X hX => planned_err X _ 1 (by decide) (lies_0 X a (h.below hX)))
theorem disk_O (n0 : Nat) (w : World) (B : Nat) (iv jv : Value) (h : DkAt n0 w B iv jv dO) : Calls Tryz.prog 25 #[.pointer (some ⟨B, 0, none⟩)] w (MdP 2 w) :=
 rdisk_err w _ 2 (by decide) (fun X hX => planned_err X _ 2 (by decide) (lies_O n0 X B iv jv (h.below hX)))
theorem look_X (n0 : Nat) (w : World) (B : Nat) (iv : Value) (h : DkAt n0 w B iv (.slice none 0 0) dX) : Calls Tryz.prog 23 #[.pointer (some ⟨B, 0, none⟩)] w (MdP 0 w) :=
 look_ok w _ sX (fun X hX => planned_ok X B sX sX_bare.rt (lies_X n0 X B iv _ (h.below hX)) (fun Y hY => fine_X n0 Y B iv (h.below (bthn hX hY))))
theorem disk_Y (n0 : Nat) (w : World) (B : Nat) (iv jv : Value) (h : DkAt n0 w B iv jv dY) : Calls Tryz.prog 25 #[.pointer (some ⟨B, 0, none⟩)] w (MdP 2 w) :=
 rdisk_err w _ 2 (by decide) (fun X hX => planned_bad X B sX sX_bare.rt (lies_Y n0 X B iv jv (h.below hX)) (by rw [sX_tx]; omega) (fun Y hY => fine_Y n0 Y B iv jv (h.below (bthn hX hY))))
theorem DkAt.kept {n0 : Nat} {w w' : World} {B : Nat} {iv jv : Value} {d : Dk} {F F' : List Nat} (h : DkAt n0 w B iv jv d) (hm : Chg F w w' F') (hd : ∀ k ∈ dF B iv jv, k ∉ F) : DkAt n0 w' B iv jv d :=
 h.same (hm.1.same (fun k hk => ⟨(h.inF k hk).2, hd k hk⟩))
/-- A disk is formatted. -/
theorem format_d (n0 : Nat) (w : World) (B : Nat) (iv : Value) (h : DkAt n0 w B iv (.slice none 0 0) (dk0 400)) (hn0 : n0 ≤ w.heap.size) : Calls Tryz.prog 22 #[.pointer (some ⟨B, 0, none⟩), .int .i64 60, .int .i64 8] w fun e w' => e = .returned (.int .i64 0) ∧ DkAt n0 w' B iv (.slice none 0 0) dA ∧ Chg (dF B iv (.slice none 0 0)) w w' (dF B iv (.slice none 0 0)) :=
 tfmt_by w _ 60 8 (fun w' => DkAt n0 w' B iv (.slice none 0 0) dA ∧ Chg (dF B iv (.slice none 0 0)) w w' (dF B iv (.slice none 0 0)))
  (sfmt_at n0 w B iv _ (dk0 400) h hn0 (by show (-1 : Int) < 0; decide) rfl 60 8 okA.m1 okA.m2 okA.k1 okA.k2 okA.p6 (by rw [dk0_len]; exact okA.sec) (by rw [dk0_len]; omega) (by show (0 : Nat) ≤ _; omega) (suL suO) 4 (mkOfc 400 60 8 okA))
theorem save_o (n0 : Nat) (w : World) (B : Nat) (iv : Value) (h : DkAt n0 w B iv (.slice none 0 0) (dk0 40)) (hn0 : n0 ≤ w.heap.size) : Calls Tryz.prog 28 #[.pointer (some ⟨B, 0, none⟩), .agg (suL sA).toArray] w fun e w' => e = .returned (.int .i64 0) ∧ DkAt n0 w' B iv (.slice none 0 0) dO ∧ Chg (dF B iv (.slice none 0 0)) w w' (dF B iv (.slice none 0 0)) :=
 ssave_at n0 w B iv _ (dk0 40) h hn0 (by show (-1 : Int) < 0; decide) rfl sA sA_wf sA_may (by rw [dk0_len]; omega) (by rw [dk0_len]; omega) (by show (0 : Nat) ≤ _; omega) (suL suO) 4 (by
  rw [sA_tx, zeros_dk0 40 1 (by omega)]
  exact ofr_ofc ofr_zero (.inr ⟨rfl, rfl⟩))
theorem save_d (n0 : Nat) (w : World) (B : Nat) (iv : Value) (h : DkAt n0 w B iv (.slice none 0 0) dA) (hn0 : n0 ≤ w.heap.size) : Calls Tryz.prog 28 #[.pointer (some ⟨B, 0, none⟩), .agg (suL sX).toArray] w fun e w' => e = .returned (.int .i64 0) ∧ DkAt n0 w' B iv (.slice none 0 0) dX ∧ Chg (dF B iv (.slice none 0 0)) w w' (dF B iv (.slice none 0 0)) :=
 ssave_at n0 w B iv _ dA h hn0 (by show (-1 : Int) < 0; decide) rfl sX sX_wf sX_may (by rw [dA_len]; omega) (by rw [dA_len]; omega) (by show (0 : Nat) ≤ _; omega) (suL suO) 4 (by
  have e : rdB dA.img (sX.tx % 2) = zeros 256 := fmt_slot0 (dk0_len 400) okA
  rw [e]
  exact ofr_ofc ofr_zero (.inr ⟨rfl, rfl⟩))
theorem write_d (n0 : Nat) (w : World) (B : Nat) (iv : Value) (h : DkAt n0 w B iv (.slice none 0 0) dX) (hn0 : n0 ≤ w.heap.size) : Calls Tryz.prog 29 #[.pointer (some ⟨B, 0, none⟩), .int .i64 3, .agg (bV (zeros 256)).toArray] w fun e w' => e = .returned (.int .i64 0) ∧ ∃ jv', DkAt n0 w' B iv jv' dY ∧ Chg (dF B iv (.slice none 0 0)) w w' (dF B iv jv') :=
 swrite_at n0 w B iv _ dX h hn0 (by show (-1 : Int) < 0; decide) rfl 3 (zeros 256) (zeros_len 256) (by rw [dX_len]; omega) (by rw [dX_len]; omega) (by show (0 : Nat) ≤ _; omega)
theorem suA_suX : (suL sA).toArray.setIfInBounds 0 (.int .u64 4611686018427387904) = (suL sX).toArray := rfl
end Go.Proofs.YtgmahhdnjikdjaaGreat
