/- The reference's itemOf, walked. (Printed by mk36.py.) -/
import Derived.Deep.RegionHeld3
import Derived.Test.YtgkelbdgdhkeoaaGreatPMsg31
import Derived.Test.YtgkelbdgdhkeoaaGreatPWA
import Derived.Test.YtgkelbdgdhkeoaaGreatPCR
namespace Go.Proofs.YtgkelbdgdhkeoaaGreat
open Go.RowKit
set_option linter.unusedVariables false
set_option linter.unusedSimpArgs false
open Wire Cmd
/-- A row of the reference's values: its cells. -/
theorem rv_cells {w0 w : World} {B : Nat} {v : Value} {cs : List (V × Value)} (h : RVrow w0 B w v cs) (hn : 0 < cs.length) : ∃ g cap, v = .slice (some ⟨g, 0, none⟩) cs.length cap ∧ g < w.heap.size ∧ B ≤ g ∧ cs.length ≤ cap ∧ cap ≤ 9223372036854775807 ∧
  ∀ (j : Nat) (x : V) (sx : Value), cs[j]? = some (x, sx) → x.x.length = 256 ∧ Rd w0 1 sx x.b.length (bV x.b) ∧ ∀ (X : World), Below w.heap.size w X → X.rangeAt g (j * 260) (rC x sx) := by
 obtain ⟨ho, hx⟩ := h
 have hall : ∀ l ∈ cs.map (fun p => rC p.1 p.2), l.length = 260 := by
  intro l hl
  obtain ⟨z, hz, rfl⟩ := List.mem_map.1 hl
  exact rC_len (hx z hz).1.x
 obtain ⟨ao, cap, rfl, _, _, ⟨_, hc1, hc2⟩, hcell⟩ := Rd.of_own ho
 rcases ho.2 with ⟨hv, h0⟩ | ⟨g, cap', cur, hv, hg, hh, _⟩
 ·omega
 ·have hao : ao = some ⟨g, 0, none⟩ := by simp at hv; exact hv.1
  subst hao
  refine ⟨g, cap, rfl, (Array.getElem?_eq_some_iff.1 hh).1, hg, hc1, by unfold maxLen at hc2; exact hc2, fun j x sx hj => ?_⟩
  have hz := hx (x, sx) (List.mem_of_getElem? hj)
  refine ⟨hz.1.x, hz.2, fun X hX i u hi => ?_⟩
  have hj2 : (cs.map (fun p => rC p.1 p.2))[j]? = some (rC x sx) := by rw [List.getElem?_map, hj]; rfl
  obtain ⟨b, off, e, hb, h3⟩ := hcell (j * 260 + i) u (flat_get hall hj2 hi)
  obtain ⟨rfl, rfl⟩ : g = b ∧ 0 = off := by simpa using e
  rw [Nat.zero_add] at h3
  exact (hX.cell (p := ⟨g, j * 260 + i, none⟩) hb).trans h3
theorem map_two {cs : List (V × Value)} {x y : V} (h : cs.map Prod.fst = [x, y]) : ∃ s1 s2, cs = [(x, s1), (y, s2)] := by
 match cs, h with
 | [(a, s1), (b, s2)], h =>
  simp only [List.map_cons, List.map_nil, List.cons.injEq, and_true] at h
  obtain ⟨rfl, rfl⟩ := h
  exact ⟨s1, s2, rfl⟩
theorem map_one {cs : List (V × Value)} {x : V} (h : cs.map Prod.fst = [x]) : ∃ s1, cs = [(x, s1)] := by
 match cs, h with
 | [(a, s1)], h =>
  simp only [List.map_cons, List.map_nil, List.cons.injEq, and_true] at h
  obtain rfl := h
  exact ⟨s1, rfl⟩
theorem map_four {cs : List (V × Value)} {x y z q : V} (h : cs.map Prod.fst = [x, y, z, q]) : ∃ s1 s2 s3 s4, cs = [(x, s1), (y, s2), (z, s3), (q, s4)] := by
 match cs, h with
 | [(a, s1), (b, s2), (c, s3), (d, s4)], h =>
  simp only [List.map_cons, List.map_nil, List.cons.injEq, and_true] at h
  obtain ⟨rfl, rfl, rfl, rfl⟩ := h
  exact ⟨s1, s2, s3, s4, rfl⟩
theorem map_six {cs : List (V × Value)} {x y z q p o : V} (h : cs.map Prod.fst = [x, y, z, q, p, o]) : ∃ s1 s2 s3 s4 s5 s6, cs = [(x, s1), (y, s2), (z, s3), (q, s4), (p, s5), (o, s6)] := by
 match cs, h with
 | [(a, s1), (b, s2), (c, s3), (d, s4), (e, s5), (f, s6)], h =>
  simp only [List.map_cons, List.map_nil, List.cons.injEq, and_true] at h
  obtain ⟨rfl, rfl, rfl, rfl, rfl, rfl⟩ := h
  exact ⟨s1, s2, s3, s4, s5, s6, rfl⟩
theorem heap_twoI (w : World) (A B : Array Value) : ((w.alloc (.cells A 78)).alloc (.cells B 78)).heap[w.heap.size + 1]? = some (.cells B 78 (0, 0)) := by
 have h := heap_alloc_new (w.alloc (.cells A 78)) (.cells B 78)
 rw [World.size_alloc] at h
 exact h
theorem newI0_store (w : World) : (storeCells ⟨w.heap.size, 0, none⟩ Tryz.zeroCells78.toList).run Tryz.prog (w.alloc (.cells Tryz.zeroCells78 78)) = .ok () (w.alloc (.cells Tryz.zeroCells78 78)) :=
 run_storeNew (P := Tryz.prog) w 78 Tryz.zeroCells78 Tryz.zeroCells78 rfl (by
  have h : ∀ u ∈ itZ 0, u.oneCell' = true := itL_one (i := ⟨0, 0, 0, 0, z256, op0, 0⟩) (sl := .slice none 0 0) rfl
  have e : Tryz.zeroCells78.toList = itZ 0 := by kernel_rfl
  rw [e]
  exact h)
theorem zeroI_Z : Tryz.zeroCells78 = (itZ 0).toArray := by kernel_rfl
theorem BI.kind {X : World} {P : Nat} {i : It0} {sl : Value} (h : BI X P i sl) (n : Int) : BI (X.setCell ⟨P, 0, none⟩ (.int .i64 n)) P { i with k := n } sl :=
 setCell_heap (A := []) (y := .int .i64 n) h
theorem resI3 {w : World} {fn : Func} {p q r : Tmp} (h : fn.results = #[.cell p 78, .tmp q, .tmp r]) (tmps : Array Value) (B : Nat) (CS : List Value) (z y : Value) (hp : tmps.getD p undef = .pointer (some ⟨B, 0, none⟩)) (hq : tmps.getD q undef = z) (hr : tmps.getD r undef = y) (hl : CS.length = 268) (ht : w.there B 0 268) :
  (results fn tmps).run Tryz.prog (w.setCells B 0 CS) = .ok (.tuple #[.agg CS.toArray, z, y]) (w.setCells B 0 CS) := by
 have hp' : tmps[p]?.getD undef = .pointer (some ⟨B, 0, none⟩) := by simpa using hp
 have hq' : tmps[q]?.getD undef = z := by simpa using hq
 have hr' : tmps[r]?.getD undef = y := by simpa using hr
 simp [results, h, hp', hq', hr', asAddr, run_loadVar_mid (P := Tryz.prog) (w.setCells B 0 CS) B 0 78 CS _ (World.rangeAt_setCells_same w _ _ _ (by rw [hl]; exact ht)) Tryz.underlying78 rfl (by rw [hl]; exact infoIt)]
/-- What stands ahead of the reference's itemOf's return. -/
structure FinR (w X : World) (i : It0) (sl : Value) : Prop where
 bx : BI X (w.heap.size + 1) i sl
 zb : X.heap[w.heap.size]? = some (.cells Tryz.zeroCells78 78 (0, 0))
 below : Below w.heap.size w X
 hd : i.data.length = 256
 one : sl.oneCell' = true
theorem FinR.mono {w X Y : World} {i : It0} {sl : Value} (h : FinR w X i sl) (hb : Below X.heap.size X Y) : FinR w Y i sl :=
 ⟨h.bx.mono hb, (hb.block _ (Array.getElem?_eq_some_iff.1 h.zb).1).trans h.zb, bthen h.below hb, h.hd, h.one⟩
theorem FinR.vol {w X : World} {i : It0} {sl : Value} (h : FinR w X i sl) (n : Nat) : FinR w (X.setCell ⟨w.heap.size + 1, 1, none⟩ (.int .u64 (n : Int))) { i with vol := n } sl :=
 ⟨h.bx.vol n, (Below.heap_setCell _ ⟨w.heap.size + 1, 1, none⟩ _ _ (by simp)).trans h.zb, h.below.setCell (p := ⟨w.heap.size + 1, 1, none⟩) (Nat.le_succ _) _, h.hd, h.one⟩
theorem FinR.size {w X : World} {i : It0} {sl : Value} (h : FinR w X i sl) (n : Int) : FinR w (X.setCell ⟨w.heap.size + 1, 2, none⟩ (.int .i64 n)) { i with size := n } sl :=
 ⟨h.bx.size n, (Below.heap_setCell _ ⟨w.heap.size + 1, 2, none⟩ _ _ (by simp)).trans h.zb, h.below.setCell (p := ⟨w.heap.size + 1, 2, none⟩) (Nat.le_succ _) _, h.hd, h.one⟩
theorem FinR.blk {w X : World} {i : It0} {sl : Value} (h : FinR w X i sl) (n : Int) : FinR w (X.setCell ⟨w.heap.size + 1, 3, none⟩ (.int .i64 n)) { i with blk := n } sl :=
 ⟨h.bx.blk n, (Below.heap_setCell _ ⟨w.heap.size + 1, 3, none⟩ _ _ (by simp)).trans h.zb, h.below.setCell (p := ⟨w.heap.size + 1, 3, none⟩) (Nat.le_succ _) _, h.hd, h.one⟩
theorem FinR.kind {w X : World} {i : It0} {sl : Value} (h : FinR w X i sl) (n : Int) : FinR w (X.setCell ⟨w.heap.size + 1, 0, none⟩ (.int .i64 n)) { i with k := n } sl :=
 ⟨h.bx.kind n, (Below.heap_setCell _ ⟨w.heap.size + 1, 0, none⟩ _ _ (by simp)).trans h.zb, h.below.setCell (p := ⟨w.heap.size + 1, 0, none⟩) (Nat.le_succ _) _, h.hd, h.one⟩
theorem FinR.blocks {w X : World} {i : It0} {sl : Value} (h : FinR w X i sl) (n : Int) : FinR w (X.setCell ⟨w.heap.size + 1, 267, none⟩ (.int .i64 n)) { i with blocks := n } sl :=
 ⟨h.bx.blocks h.hd n, (Below.heap_setCell _ ⟨w.heap.size + 1, 267, none⟩ _ _ (by simp)).trans h.zb, h.below.setCell (p := ⟨w.heap.size + 1, 267, none⟩) (Nat.le_succ _) _, h.hd, h.one⟩
theorem FinR.data {w X : World} {i : It0} {sl : Value} (h : FinR w X i sl) (d : List UInt8) (hd : d.length = 256) : FinR w (X.setCells (w.heap.size + 1) 4 (bV d)) { i with data := d } sl :=
 ⟨h.bx.data d (by rw [h.hd, hd]), (heapSetC _ _ _ _ _ (by omega)).trans h.zb, belowSetC (Nat.le_succ _) _ _ _ h.below, hd, h.one⟩
theorem FinR.op {w X : World} {i : It0} {sl : Value} (h : FinR w X i sl) (o : Op0) (sl' : Value) (h1 : sl'.oneCell' = true) : FinR w (X.setCells (w.heap.size + 1) 260 (opL o sl')) { i with op := o } sl' :=
 ⟨h.bx.op h.hd o sl', (heapSetC _ _ _ _ _ (by omega)).trans h.zb, belowSetC (Nat.le_succ _) _ _ _ h.below, h.hd, h1⟩
theorem FinR.new (w : World) : FinR w ((w.alloc (.cells Tryz.zeroCells78 78)).alloc (.cells Tryz.zeroCells78 78)) ⟨0, 0, 0, 0, z256, op0, 0⟩ (.slice none 0 0) :=
 ⟨by
  have h := heap_twoI w Tryz.zeroCells78 Tryz.zeroCells78
  unfold BI
  have e : (itL ⟨0, 0, 0, 0, z256, op0, 0⟩ (.slice none 0 0)).toArray = Tryz.zeroCells78 := zeroI_Z.symm
  rw [e]
  exact h, (Below.heap_alloc _ _ _ (by simp)).trans (heap_alloc_new w _), balloc (balloc (Below.refl _ _) _) _, z256_len, rfl⟩
theorem FinR.fin {w X : World} {i : It0} {sl : Value} (h : FinR w X i sl) : ∃ L, itL i sl = L ∧ L.length = 268 ∧ L.toArray.all (·.oneCell') = true ∧ X.rangeAt (w.heap.size + 1) 0 L ∧ X.there w.heap.size 0 268 ∧ X.there w.heap.size 0 L.toArray.size ∧
  (Tryz.prog.info? 78).map (·.size) = some L.length ∧ (Tryz.prog.info? 78).map (·.size) = some L.toArray.size ∧ Below w.heap.size w (X.setCells w.heap.size 0 L) := by
 obtain ⟨bx, zb, hb, hd, h1⟩ := h
 have hl := itL_len (i := i) (sl := sl) hd
 refine ⟨_, rfl, hl, all_oneL (itL_one h1), fun j u hj => ?_, there_of zb zeroI268, there_mid zb zeroI268 (by rw [List.size_toArray, hl]; omega), by rw [hl]; exact infoIt, by rw [List.size_toArray, hl]; exact infoIt, belowSetC (Nat.le_refl _) _ _ _ hb⟩
 rw [Nat.zero_add]
 exact cellIs bx (by simpa using hj)
theorem FinR.there {w X : World} {i : It0} {sl : Value} (h : FinR w X i sl) {o n : Nat} (hn : o + n ≤ 268) : X.there (w.heap.size + 1) o n := h.bx.there h.hd hn
theorem FinR.cellT {w X : World} {i : It0} {sl : Value} (h : FinR w X i sl) {o : Nat} (ho : o < 268) : ∃ u, X.cell? ⟨w.heap.size + 1, o, none⟩ = some u := h.bx.cellT h.hd ho
/-- What the reference's itemOf answers. -/
def RItP (w0 w : World) (bs : List UInt8) (e : Ending) (w' : World) : Prop :=
 Below w.heap.size w w' ∧ ∃ (i : It0) (sl : Value) (n : Nat) (y : Bool), e = .returned (.tuple #[.agg (itL i sl).toArray, .int .i64 (n : Int), .bool y]) ∧ i.data.length = 256 ∧ sl.oneCell' = true ∧
  ((y = false ∧ (unpack (shapeI ((bs.headD 0).toNat : Int)) bs = none ∨ ∃ l n, unpack (shapeI ((bs.headD 0).toNat : Int)) bs = some (l, n) ∧ mayI (getI l) = false)) ∨
   (y = true ∧ ∃ l, unpack (shapeI ((bs.headD 0).toNat : Int)) bs = some (l, n) ∧ i = getI l ∧ Rd w0 1 sl i.op.data.length (bV i.op.data)))
theorem mayI_noop {o : Option Op0} (h : o = none) (q : Int) : mayI ⟨5, 0, 0, 0, z256, oO o, q⟩ = false := by
 subst h
 rw [Bool.eq_false_iff]
 intro h
 rcases mayI_iff.1 h with ⟨h, _⟩ | ⟨h, _⟩ | ⟨h, _⟩ | ⟨h, _⟩ | ⟨_, _, _, _, _, ho, _⟩
 ·exact absurd (show (5 : Int) = 1 from h) (by decide)
 ·exact absurd (show (5 : Int) = 2 from h) (by decide)
 ·exact absurd (show (5 : Int) = 3 from h) (by decide)
 ·exact absurd (show (5 : Int) = 4 from h) (by decide)
 ·exact absurd (show mayO op0 = true from ho) (by decide)
set_option maxRecDepth 100000 in
set_option maxHeartbeats 6400000 in
theorem ritemOf_nil (v : Value) (w0 w : World) (hd : Rd w 1 v 0 (bV [])) : Calls Tryz.prog 52 #[v] w (RItP w0 w []) := by
 obtain ⟨ao, cap, rfl, _⟩ := hd
 obtain ⟨W1, hW1⟩ : ∃ W, (w.alloc (.cells Tryz.zeroCells78 78)).alloc (.cells Tryz.zeroCells78 78) = W := ⟨_, rfl⟩
 have HF := Lib.hid (FinR.new w)
 rw [hW1] at HF
 have hst := newI0_store (w.alloc (.cells Tryz.zeroCells78 78))
 rw [World.size_alloc, hW1] at hst
 obtain ⟨IL, hIL, hil, hone, hrc, hth, hth2, hii, hij, hfin⟩ := HF.out.fin
 have HIL := Lib.hid hIL
 have HRC := Lib.hid hrc
 have HTH := Lib.hid hth
 have HTH2 := Lib.hid hth2
 have HII := Lib.hid hii
 have HIJ := Lib.hid hij
 have HON := Lib.hid (And.intro hil hone)
 have HFIN := Lib.hid hfin
 clear hIL hil hone hrc hth hth2 hii hij hfin
 go_enter Tryz.func52, Tryz.ntmps52
 go_upto_region 2 with fail
 clear hst hW1
 go_wp2_with (first
  | (refine wpList_load_mid rfl 78 _ rfl (w.heap.size + 1) 0 rfl IL _ HRC.out Tryz.underlying78 rfl HII.out ?_)
  | (refine wpList_store_mid rfl 78 _ _ rfl w.heap.size 0 IL.toArray rfl rfl HTH2.out HIJ.out HON.out.2 ?_))
 exact bodyPost_ret (v := .tuple #[.agg IL.toArray, .int .i64 0, .bool false]) (resI3 rfl _ _ _ _ _ rfl rfl rfl HON.out.1 HTH.out) rfl ⟨HFIN.out, _, _, 0, false, by rw [HIL.out]; rfl, z256_len, rfl, .inl ⟨rfl, .inl rfl⟩⟩
set_option maxRecDepth 100000 in
set_option maxHeartbeats 6400000 in
theorem ritemOf_op (bs : List UInt8) (hne : 1 ≤ bs.length) (hm : bs.length ≤ 20000) (hh : (bs.headD 0).toNat = 5) (v : Value) (w0 w : World) (hd0 : Rd w0 1 v bs.length (bV bs)) (hbw : Below w0.heap.size w0 w) : Calls Tryz.prog 52 #[v] w (RItP w0 w bs) := by
 have HD0 := Lib.hid hd0
 have HBW := Lib.hid hbw
 have hs : shapeI (((bs.headD 0).toNat : Nat) : Int) = [49, 42, 52] := by
  rw [hh]
  rfl
 obtain ⟨b0, bt, rfl⟩ : ∃ b0 bt, bs = b0 :: bt := by
  cases bs with
  | nil => simp at hne
  | cons a t => exact ⟨_, _, rfl⟩
 have hd := hd0.below hbw
 obtain ⟨ao, cap, rfl, _, _, ⟨_, hc1, hc2⟩, hcell⟩ := hd
 unfold maxLen at hc2
 obtain ⟨b, off, rfl, hbl, hk0⟩ := hcell 0 (.int .u8 (b0.toNat : Int)) rfl
 rw [Nat.add_zero] at hk0
 have hb0 : (b0.toNat : Int) = 5 := by
  have : (b0 :: bt).headD 0 = b0 := rfl
  rw [this] at hh
  omega
 rw [hb0] at hk0
 have HSH := Lib.hid hs
 have HHH := Lib.hid hh
 obtain ⟨m, hmm⟩ : ∃ m, (b0 :: bt).length = m := ⟨_, rfl⟩
 have HMM := Lib.hid hmm
 rw [hmm] at HD0 hc1 hm hne ⊢
 obtain ⟨W1, hW1⟩ : ∃ W, (w.alloc (.cells Tryz.zeroCells78 78)).alloc (.cells Tryz.zeroCells78 78) = W := ⟨_, rfl⟩
 have HF1 := Lib.hid (FinR.new w)
 rw [hW1] at HF1
 have hst := newI0_store (w.alloc (.cells Tryz.zeroCells78 78))
 rw [World.size_alloc, hW1] at hst
 have hk1 : W1.cell? ⟨b, off, none⟩ = some (.int .u8 5) := (HF1.out.below.cell (p := ⟨b, off, none⟩) hbl).trans hk0
 have hz0 : W1.cell? ⟨w.heap.size + 1, 0, none⟩ = some (.int .i64 0) := cellIs HF1.out.bx rfl
 have hfz : ∀ i, W1.frozen? ⟨w.heap.size + 1, i, none⟩ = false := fun i => frozenOf HF1.out.bx i
 have hwk : IntKind.i64.wrap 5 = 5 := IntWalk.i64_in _ (by omega)
 have hm0 : ((m : Int) == 0) = false := bneI (by omega)
 obtain ⟨W2, hW2⟩ : ∃ W, W1.setCell ⟨w.heap.size + 1, 0, none⟩ (.int .i64 5) = W := ⟨_, rfl⟩
 have HF2 := Lib.hid (HF1.out.kind 5)
 rw [hW2] at HF2
 have CU : Hid (Calls Tryz.prog 50 #[.string ⟨#[49, 42, 52]⟩, .slice (some ⟨b, off, none⟩) m cap] W2 fun e w' => ∃ (v' : Value) (q : Nat) (code : Int), e = .returned (.tuple #[v', .int .i64 (q : Int), .int .i64 code]) ∧ Below W2.heap.size W2 w' ∧ ((unpack [49, 42, 52] (b0 :: bt) = none ∧ code = 4) ∨ (code = 0 ∧ ∃ cs, unpack [49, 42, 52] (b0 :: bt) = some (cs.map Prod.fst, q) ∧ RVrow w0 W2.heap.size w' v' cs))) := Lib.hid (by
  have h := runpack_any (strB [49, 42, 52]) HD0.out (bthen HBW.out HF2.out.below) (by omega) (by rw [str_size]; decide)
  rw [chs_str] at h
  exact h.mono fun _ _ hh => ru_of hh)
 have k2 : W2.cell? ⟨w.heap.size + 1, 0, none⟩ = some (.int .i64 5) := cellIs HF2.out.bx rfl
 clear hcell hk0 hb0 hs hmm hh hd0 hbw hbl
 go_enter Tryz.func52, Tryz.ntmps52
 go_upto_region 5 with fail
 clear hst hW1 hk1 hz0 hfz hm0 hwk hW2
 go_wp2_with fail
 refine CU.out.mono ?_
 rintro e w3 ⟨v', n, code, rfl, hb3, hP⟩
 have HF3 := Lib.hid (HF2.out.mono hb3)
 have hk3 : w3.cell? ⟨w.heap.size + 1, 0, none⟩ = some (.int .i64 5) := cellIs HF3.out.bx rfl
 have HB3 := Lib.hid hb3.size
 clear hb3 CU k2
 rcases hP with ⟨hu, rfl⟩ | ⟨rfl, cs, hu, hrow⟩
 ·have HX := HF3
  have HU := Lib.hid hu
  clear hu hk3
  obtain ⟨IL, hIL, hil, hone, hrc, hth, hth2, hii, hij, hfin⟩ := HX.out.fin
  have HIL := Lib.hid hIL
  have HRC := Lib.hid hrc
  have HTH := Lib.hid hth
  have HTH2 := Lib.hid hth2
  have HII := Lib.hid hii
  have HIJ := Lib.hid hij
  have HON := Lib.hid (And.intro hil hone)
  have HFIN := Lib.hid hfin
  clear hIL hil hone hrc hth hth2 hii hij hfin
  go_wp2_with (first
   | (refine wpList_load_mid rfl 78 _ rfl (w.heap.size + 1) 0 rfl IL _ HRC.out Tryz.underlying78 rfl HII.out ?_)
   | (refine wpList_store_mid rfl 78 _ _ rfl w.heap.size 0 IL.toArray rfl rfl HTH2.out HIJ.out HON.out.2 ?_))
  exact bodyPost_ret (v := .tuple #[.agg IL.toArray, .int .i64 0, .bool false]) (resI3 rfl _ _ _ _ _ rfl rfl rfl HON.out.1 HTH.out) rfl ⟨HFIN.out, _, _, 0, false, by rw [HIL.out]; rfl, z256_len, rfl, .inl ⟨rfl, .inl (by rw [HSH.out]; exact HU.out)⟩⟩
 ·have HU := Lib.hid hu
  have hbb := (unpack_blen _ _ _ _ hu).1
  have HHL : Hid (((b0 :: bt).headD 0).toNat = 5) := HHH
  obtain ⟨y1, k1, l1, m1, e1, hu1, he1, hz1⟩ := unpack_cons hu
  obtain ⟨y2, k2, l2, m2, e2, hu2, he2, hz2⟩ := unpack_cons hu1
  obtain ⟨y3, k3, l3, m3, e3, hu3, he3, hz3⟩ := unpack_cons hu2
  have hn3 := unpack_nil hu3
  subst hn3
  subst he3
  subst he2
  obtain ⟨s1, s2, s3, rfl⟩ := map_three he1
  have f1 := lift_49h e1
  rw [HHL.out] at f1
  subst f1
  have g3 := (lift_52 e3).2
  have hb2 : y2.b.length ≤ 20000 := by have := hbb y2 (by simp); rw [HMM.out] at this; omega
  have hg : getI [num 5, y2, y3] = ⟨5, 0, 0, 0, z256, oO (ofO y2.b), (y3.n : Int)⟩ := rfl
  obtain ⟨g, capg, rfl, hgl, hgB, hgc, hgm, hget⟩ := rv_cells hrow (by simp)
  simp only [List.length_cons, List.length_nil, Nat.zero_add, Nat.reduceAdd] at hgc ⊢
  have HG := Lib.hid hg
  have hgne : w.heap.size + 1 < g := by have := HF2.out.bx; have := (Array.getElem?_eq_some_iff.1 this).1; omega
  have hne1 : (w.heap.size + 1 = g) = False := eq_false (by omega)
  have hne2 : (g = w.heap.size + 1) = False := eq_false (by omega)
  have HGET := Lib.hid hget
  have HGL := Lib.hid hgl
  clear hrow hu hu1 e1 hz1 hu2 e2 hz2 hu3 e3 hz3 he1 hbb hget hgl hg hgB
  obtain ⟨_, hsx, _⟩ := HGET.out 1 _ _ rfl
  have HSX := Lib.hid hsx
  obtain ⟨aox, capx, rfl, _⟩ := hsx
  have CO := Lib.hid (rofO_any y2.b _ w0 w3 HSX.out (bthen HBW.out HF3.out.below) hb2)
  have hwr : IntKind.i64.wrap (y3.n : Int) = (y3.n : Int) := IntWalk.i64_in _ (by omega)
  have c13 : w3.cell? ⟨g, 263, none⟩ = some _ := (HGET.out 1 _ _ rfl).2.2 w3 (Below.refl _ _) 3 _ rfl
  go_upto_region 20 with fail
  clear hk3
  go_wp2_with fail
  refine CO.out.mono ?_
  rintro e w4 ⟨hb4, sl', rfl, hr4⟩
  have HR4 := Lib.hid hr4
  have hone : sl'.oneCell' = true := by obtain ⟨_, _, rfl, _⟩ := hr4; rfl
  have HF4 := Lib.hid (HF3.out.mono hb4)
  have HF5 := Lib.hid (HF4.out.op (oO (ofO y2.b)) sl' hone)
  have HON1 := Lib.hid hone
  have hc21 : (w4.setCells (w.heap.size + 1) 260 (opL (oO (ofO y2.b)) sl')).cell? ⟨g, 521, none⟩ = some (.int .u64 (y3.n : Int)) := by
   rw [World.cell?_of_block (heapSetC _ _ _ _ _ (show g ≠ w.heap.size + 1 by omega))]
   exact (HGET.out 2 _ _ rfl).2.2 w4 hb4 1 _ rfl
  obtain ⟨Y, hY, hyl, hyo⟩ : ∃ Y : List Value, opL (oO (ofO y2.b)) sl' = Y ∧ Y.length = 7 ∧ Y.toArray.all (·.oneCell') = true := ⟨_, rfl, rfl, all_oneL (opL_one hone)⟩
  have hY2 : oC (oO (ofO y2.b)) sl' = Y.toArray := by rw [← hY]; rfl
  rw [hY] at HF5 hc21
  rw [hY2]
  have HT4 : Hid (w4.there (w.heap.size + 1) 260 Y.toArray.size) := Lib.hid (HF4.out.there (by rw [List.size_toArray, hyl]; omega))
  have HI4 : Hid ((Tryz.prog.info? 70).map (·.size) = some Y.toArray.size) := Lib.hid (by rw [List.size_toArray, hyl]; exact infoOp)
  have HO4 := Lib.hid hyo
  obtain ⟨t0, ht0⟩ := HF5.out.cellT (o := 267) (by omega)
  have hfz5 : ∀ i, (w4.setCells (w.heap.size + 1) 260 Y).frozen? ⟨w.heap.size + 1, i, none⟩ = false := fun i => frozenOf HF5.out.bx i
  have HX : Hid (FinR w ((w4.setCells (w.heap.size + 1) 260 Y).setCell ⟨w.heap.size + 1, 267, none⟩ (.int .i64 (y3.n : Int))) _ _) := Lib.hid (HF5.out.blocks (y3.n : Int))
  obtain ⟨oy, hoy⟩ : ∃ y, (ofO y2.b).isSome = y := ⟨_, rfl⟩
  have HOY := Lib.hid hoy
  rw [hoy]
  clear hY hY2 hyl hyo hb4 hr4 hone CO c13 hoy
  obtain ⟨IL, hIL, hil, hone, hrc, hth, hth2, hii, hij, hfin⟩ := HX.out.fin
  have HIL := Lib.hid hIL
  have HRC := Lib.hid hrc
  have HTH := Lib.hid hth
  have HTH2 := Lib.hid hth2
  have HII := Lib.hid hii
  have HIJ := Lib.hid hij
  have HON := Lib.hid (And.intro hil hone)
  have HFIN := Lib.hid hfin
  clear hIL hil hone hrc hth hth2 hii hij hfin
  go_upto_region 22 with (first
   | (refine wpList_store_mid rfl 70 _ _ rfl (w.heap.size + 1) 260 Y.toArray rfl rfl HT4.out HI4.out HO4.out ?_))
  clear ht0 hfz5 hc21 hwr hne1 hne2
  go_wp2_with (first
   | (refine wpList_load_mid rfl 78 _ rfl (w.heap.size + 1) 0 rfl IL _ HRC.out Tryz.underlying78 rfl HII.out ?_)
   | (refine wpList_store_mid rfl 78 _ _ rfl w.heap.size 0 IL.toArray rfl rfl HTH2.out HIJ.out HON.out.2 ?_))
  refine bodyPost_ret (v := .tuple #[.agg IL.toArray, .int .i64 (n : Int), .bool oy]) (resI3 rfl _ _ _ _ _ rfl rfl rfl HON.out.1 HTH.out) rfl ⟨HFIN.out, _, _, n, oy, by rw [HIL.out], z256_len, HON1.out, ?_⟩
  cases oy with
  | false =>
   refine .inl ⟨rfl, .inr ⟨_, _, by rw [HSH.out]; exact HU.out, ?_⟩⟩
   show mayI (getI [num 5, y2, y3]) = false
   rw [HG.out]
   exact mayI_noop (by simpa using HOY.out) _
  | true => exact .inr ⟨rfl, _, by rw [HSH.out]; exact HU.out, HG.out.symm, HR4.out⟩
set_option maxRecDepth 100000 in
set_option maxHeartbeats 6400000 in
theorem ritemOf_data (bs : List UInt8) (hne : 1 ≤ bs.length) (hm : bs.length ≤ 20000) (hh : (bs.headD 0).toNat = 4) (v : Value) (w0 w : World) (hd0 : Rd w0 1 v bs.length (bV bs)) (hbw : Below w0.heap.size w0 w) : Calls Tryz.prog 52 #[v] w (RItP w0 w bs) := by
 have HD0 := Lib.hid hd0
 have HBW := Lib.hid hbw
 have hs : shapeI (((bs.headD 0).toNat : Nat) : Int) = [49, 52, 50, 35] := by
  rw [hh]
  rfl
 obtain ⟨b0, bt, rfl⟩ : ∃ b0 bt, bs = b0 :: bt := by
  cases bs with
  | nil => simp at hne
  | cons a t => exact ⟨_, _, rfl⟩
 have hd := hd0.below hbw
 obtain ⟨ao, cap, rfl, _, _, ⟨_, hc1, hc2⟩, hcell⟩ := hd
 unfold maxLen at hc2
 obtain ⟨b, off, rfl, hbl, hk0⟩ := hcell 0 (.int .u8 (b0.toNat : Int)) rfl
 rw [Nat.add_zero] at hk0
 have hb0 : (b0.toNat : Int) = 4 := by
  have : (b0 :: bt).headD 0 = b0 := rfl
  rw [this] at hh
  omega
 rw [hb0] at hk0
 have HSH := Lib.hid hs
 have HHH := Lib.hid hh
 obtain ⟨m, hmm⟩ : ∃ m, (b0 :: bt).length = m := ⟨_, rfl⟩
 have HMM := Lib.hid hmm
 rw [hmm] at HD0 hc1 hm hne ⊢
 obtain ⟨W1, hW1⟩ : ∃ W, (w.alloc (.cells Tryz.zeroCells78 78)).alloc (.cells Tryz.zeroCells78 78) = W := ⟨_, rfl⟩
 have HF1 := Lib.hid (FinR.new w)
 rw [hW1] at HF1
 have hst := newI0_store (w.alloc (.cells Tryz.zeroCells78 78))
 rw [World.size_alloc, hW1] at hst
 have hk1 : W1.cell? ⟨b, off, none⟩ = some (.int .u8 4) := (HF1.out.below.cell (p := ⟨b, off, none⟩) hbl).trans hk0
 have hz0 : W1.cell? ⟨w.heap.size + 1, 0, none⟩ = some (.int .i64 0) := cellIs HF1.out.bx rfl
 have hfz : ∀ i, W1.frozen? ⟨w.heap.size + 1, i, none⟩ = false := fun i => frozenOf HF1.out.bx i
 have hwk : IntKind.i64.wrap 4 = 4 := IntWalk.i64_in _ (by omega)
 have hm0 : ((m : Int) == 0) = false := bneI (by omega)
 obtain ⟨W2, hW2⟩ : ∃ W, W1.setCell ⟨w.heap.size + 1, 0, none⟩ (.int .i64 4) = W := ⟨_, rfl⟩
 have HF2 := Lib.hid (HF1.out.kind 4)
 rw [hW2] at HF2
 have CU : Hid (Calls Tryz.prog 50 #[.string ⟨#[49, 52, 50, 35]⟩, .slice (some ⟨b, off, none⟩) m cap] W2 fun e w' => ∃ (v' : Value) (q : Nat) (code : Int), e = .returned (.tuple #[v', .int .i64 (q : Int), .int .i64 code]) ∧ Below W2.heap.size W2 w' ∧ ((unpack [49, 52, 50, 35] (b0 :: bt) = none ∧ code = 4) ∨ (code = 0 ∧ ∃ cs, unpack [49, 52, 50, 35] (b0 :: bt) = some (cs.map Prod.fst, q) ∧ RVrow w0 W2.heap.size w' v' cs))) := Lib.hid (by
  have h := runpack_any (strB [49, 52, 50, 35]) HD0.out (bthen HBW.out HF2.out.below) (by omega) (by rw [str_size]; decide)
  rw [chs_str] at h
  exact h.mono fun _ _ hh => ru_of hh)
 have k2 : W2.cell? ⟨w.heap.size + 1, 0, none⟩ = some (.int .i64 4) := cellIs HF2.out.bx rfl
 clear hcell hk0 hb0 hs hmm hh hd0 hbw hbl
 go_enter Tryz.func52, Tryz.ntmps52
 go_upto_region 5 with fail
 clear hst hW1 hk1 hz0 hfz hm0 hwk hW2
 go_wp2_with fail
 refine CU.out.mono ?_
 rintro e w3 ⟨v', n, code, rfl, hb3, hP⟩
 have HF3 := Lib.hid (HF2.out.mono hb3)
 have hk3 : w3.cell? ⟨w.heap.size + 1, 0, none⟩ = some (.int .i64 4) := cellIs HF3.out.bx rfl
 have HB3 := Lib.hid hb3.size
 clear hb3 CU k2
 rcases hP with ⟨hu, rfl⟩ | ⟨rfl, cs, hu, hrow⟩
 ·have HX := HF3
  have HU := Lib.hid hu
  clear hu hk3
  obtain ⟨IL, hIL, hil, hone, hrc, hth, hth2, hii, hij, hfin⟩ := HX.out.fin
  have HIL := Lib.hid hIL
  have HRC := Lib.hid hrc
  have HTH := Lib.hid hth
  have HTH2 := Lib.hid hth2
  have HII := Lib.hid hii
  have HIJ := Lib.hid hij
  have HON := Lib.hid (And.intro hil hone)
  have HFIN := Lib.hid hfin
  clear hIL hil hone hrc hth hth2 hii hij hfin
  go_wp2_with (first
   | (refine wpList_load_mid rfl 78 _ rfl (w.heap.size + 1) 0 rfl IL _ HRC.out Tryz.underlying78 rfl HII.out ?_)
   | (refine wpList_store_mid rfl 78 _ _ rfl w.heap.size 0 IL.toArray rfl rfl HTH2.out HIJ.out HON.out.2 ?_))
  exact bodyPost_ret (v := .tuple #[.agg IL.toArray, .int .i64 0, .bool false]) (resI3 rfl _ _ _ _ _ rfl rfl rfl HON.out.1 HTH.out) rfl ⟨HFIN.out, _, _, 0, false, by rw [HIL.out]; rfl, z256_len, rfl, .inl ⟨rfl, .inl (by rw [HSH.out]; exact HU.out)⟩⟩
 ·have HU := Lib.hid hu
  have hbb := (unpack_blen _ _ _ _ hu).1
  have HHL : Hid (((b0 :: bt).headD 0).toNat = 4) := HHH
  obtain ⟨y1, k1, l1, m1, e1, hu1, he1, hz1⟩ := unpack_cons hu
  obtain ⟨y2, k2, l2, m2, e2, hu2, he2, hz2⟩ := unpack_cons hu1
  obtain ⟨y3, k3, l3, m3, e3, hu3, he3, hz3⟩ := unpack_cons hu2
  obtain ⟨y4, k4, l4, m4, e4, hu4, he4, hz4⟩ := unpack_cons hu3
  have hn4 := unpack_nil hu4
  subst hn4
  subst he4
  subst he3
  subst he2
  obtain ⟨s1, s2, s3, s4, rfl⟩ := map_four he1
  have f1 := lift_49h e1
  rw [HHL.out] at f1
  subst f1
  have g3 := (lift_50 e3).2
  have g4 := (lift_35 e4).2
  have hg : getI [num 4, y2, y3, y4] = ⟨4, y2.n, 0, (y3.n : Int), y4.x, op0, 0⟩ := rfl
  obtain ⟨g, capg, rfl, hgl, hgB, hgc, hgm, hget⟩ := rv_cells hrow (by simp)
  simp only [List.length_cons, List.length_nil, Nat.zero_add, Nat.reduceAdd] at hgc ⊢
  have HG := Lib.hid hg
  have hgne : w.heap.size + 1 < g := by have := HF2.out.bx; have := (Array.getElem?_eq_some_iff.1 this).1; omega
  have hne1 : (w.heap.size + 1 = g) = False := eq_false (by omega)
  have hne2 : (g = w.heap.size + 1) = False := eq_false (by omega)
  have HGET := Lib.hid hget
  have HGL := Lib.hid hgl
  clear hrow hu hu1 e1 hz1 hu2 e2 hz2 hu3 e3 hz3 hu4 e4 hz4 he1 hbb hget hgl hg hgB
  have hwr : IntKind.i64.wrap (y3.n : Int) = (y3.n : Int) := IntWalk.i64_in _ (by omega)
  have hr3 : ∀ X, Below w3.heap.size w3 X → X.rangeAt g 784 (bV y4.x) := fun X hX j u hj => by
   have h := (HGET.out 3 _ _ rfl).2.2 X hX (j + 4) u (by simpa [rC] using hj)
   rwa [show 3 * 260 + (j + 4) = 784 + j by omega] at h
  have HR3 := Lib.hid hr3
  have HC3 : Hid (∀ X, Below w3.heap.size w3 X → X.cell? ⟨g, 521, none⟩ = some (.int .u64 (y3.n : Int))) := Lib.hid (fun X hX => (HGET.out 2 _ _ rfl).2.2 X hX 1 _ rfl)
  have hib : (Tryz.prog.info? 76).map (·.size) = some (bV y4.x).length := by rw [bV_len, g4]; exact infoBk
  have HIB := Lib.hid hib
  clear hr3 hib
  obtain ⟨BX, hBX, hbx⟩ : ∃ L, bV y4.x = L ∧ L.toArray.all (·.oneCell') = true := ⟨_, rfl, all_oneL (bV_one _)⟩
  obtain ⟨ws, hws⟩ : ∃ W, w3.drew.setCell ⟨w.heap.size + 1, 3, none⟩ (.int .i64 (y3.n : Int)) = W := ⟨_, rfl⟩
  have HFs := Lib.hid ((HF3.out.mono (Below.refl _ _).drew).blk (y3.n : Int))
  rw [hws] at HFs
  have HFd := Lib.hid (HFs.out.data y4.x g4)
  have HT4 : Hid (ws.there (w.heap.size + 1) 4 BX.toArray.size) := Lib.hid (HFs.out.there (by rw [← hBX, List.size_toArray, bV_len, g4]; omega))
  have HI4 : Hid ((Tryz.prog.info? 76).map (·.size) = some BX.toArray.size) := Lib.hid (by rw [← hBX, List.size_toArray, bV_len, g4]; exact infoBk)
  have HO4 := Lib.hid hbx
  rw [hBX] at HR3 HIB HFd
  have HSW : Hid (∀ X : World, X.heap[g]? = w3.heap[g]? → X.cell? ⟨g, 521, none⟩ = some (.int .u64 (y3.n : Int)) ∧ X.rangeAt g 784 BX) := Lib.hid (fun X hX => ⟨by
   rw [World.cell?_of_block hX]; exact HC3.out w3 (Below.refl _ _), fun j u hj => by
   rw [World.cell?_of_block hX]; exact HR3.out w3 (Below.refl _ _) j u hj⟩)
  have HWG : Hid (ws.heap[g]? = w3.heap[g]?) := Lib.hid (by rw [← hws]; exact Below.heap_setCell w3.drew ⟨w.heap.size + 1, 3, none⟩ _ g (by show g ≠ w.heap.size + 1; omega))
  obtain ⟨t3, ht3⟩ := (HF3.out.mono (Below.refl _ _).drew).cellT (o := 3) (by omega)
  have hfz3 : ∀ i, w3.drew.frozen? ⟨w.heap.size + 1, i, none⟩ = false := fun i => frozenOf (HF3.out.mono (Below.refl _ _).drew).bx i
  have HX : Hid (FinR w ((ws.setCells (w.heap.size + 1) 4 BX).setCell ⟨w.heap.size + 1, 1, none⟩ (.int .u64 (y2.n : Int))) _ _) := Lib.hid (HFd.out.vol y2.n)
  obtain ⟨t1, ht1⟩ := HFd.out.cellT (o := 1) (by omega)
  have hfzd : ∀ i, (ws.setCells (w.heap.size + 1) 4 BX).frozen? ⟨w.heap.size + 1, i, none⟩ = false := fun i => frozenOf HFd.out.bx i
  have HC1 : Hid ((ws.setCells (w.heap.size + 1) 4 BX).cell? ⟨g, 261, none⟩ = some (.int .u64 (y2.n : Int))) := Lib.hid (by
   rw [World.cell?_of_block ((heapSetC _ _ _ _ _ (show g ≠ w.heap.size + 1 by omega)).trans HWG.out)]
   exact (HGET.out 1 _ _ rfl).2.2 w3 (Below.refl _ _) 1 _ rfl)
  obtain ⟨IL, hIL, hil, hone, hrc, hth, hth2, hii, hij, hfin⟩ := HX.out.fin
  have HIL := Lib.hid hIL
  have HRC := Lib.hid hrc
  have HTH := Lib.hid hth
  have HTH2 := Lib.hid hth2
  have HII := Lib.hid hii
  have HIJ := Lib.hid hij
  have HON := Lib.hid (And.intro hil hone)
  have HFIN := Lib.hid hfin
  clear hIL hil hone hrc hth hth2 hii hij hfin
  clear hBX hbx
  go_upto_region 28 with fail
  clear hk3
  have hs0 := HSW.out w3.drew rfl
  refine wp_region_held_drew (S := fun X => X.cell? ⟨g, 521, none⟩ = some (.int .u64 (y3.n : Int)) ∧ X.rangeAt g 784 BX) (by kernel_rfl) hs0 (fun hHeld => ?_)
  clear hs0
  refine wpAnyH_take (i := 0) (v := ?_) rfl (by kernel_rfl) (by kernel_rfl) (by kernel_rfl) (fun _ _ _ h => h) (Or.inl ⟨by rfl, ?_⟩) (by assumption) ?_
  rotate_left
  ·(intro w hSw; (try dsimp only at hSw); simp only [List.getElem_toArray, List.getElem_cons_zero, List.getElem_cons_succ]; go_simp; first | done | with_reducible rfl)
  simp only [List.getElem_toArray, List.getElem_cons_zero, List.getElem_cons_succ, Act.put, List.setIfInBounds_toArray, List.set_cons_zero, List.set_cons_succ]
  refine wpAnyH_take (i := 1) (v := ?_) rfl (by kernel_rfl) (by kernel_rfl) (by kernel_rfl) (fun _ _ _ h => h) (Or.inl ⟨by rfl, ?_⟩) (by assumption) ?_
  rotate_left
  ·(intro w hSw; (try dsimp only at hSw); simp only [List.getElem_toArray, List.getElem_cons_zero, List.getElem_cons_succ]; go_simp; first | done | with_reducible rfl)
  simp only [List.getElem_toArray, List.getElem_cons_zero, List.getElem_cons_succ, Act.put, List.setIfInBounds_toArray, List.set_cons_zero, List.set_cons_succ]
  refine wpAnyH_take (i := 2) (v := ?_) rfl (by kernel_rfl) (by kernel_rfl) (by kernel_rfl) (fun _ _ _ h => h) (Or.inl ⟨by rfl, ?_⟩) (by assumption) ?_
  rotate_left
  ·(intro w hSw; (try dsimp only at hSw); simp only [List.getElem_toArray, List.getElem_cons_zero, List.getElem_cons_succ]; go_simp; first | done | with_reducible rfl)
  simp only [List.getElem_toArray, List.getElem_cons_zero, List.getElem_cons_succ, Act.put, List.setIfInBounds_toArray, List.set_cons_zero, List.set_cons_succ]
  refine wpAnyH_take (i := 3) (v := ?_) rfl (by kernel_rfl) (by kernel_rfl) (by kernel_rfl) (fun _ _ _ h => h) (Or.inl ⟨by rfl, ?_⟩) (by assumption) ?_
  rotate_left
  ·(intro w hSw; (try dsimp only at hSw); simp only [List.getElem_toArray, List.getElem_cons_zero, List.getElem_cons_succ]; go_simp; first | done | with_reducible rfl)
  simp only [List.getElem_toArray, List.getElem_cons_zero, List.getElem_cons_succ, Act.put, List.setIfInBounds_toArray, List.set_cons_zero, List.set_cons_succ]
  refine wpAnyH_take (i := 4) (v := ?_) rfl (by kernel_rfl) (by kernel_rfl) (by kernel_rfl) (fun _ _ _ h => h) (Or.inl ⟨by rfl, ?_⟩) (by assumption) ?_
  rotate_left
  ·(intro w hSw; (try dsimp only at hSw); simp only [List.getElem_toArray, List.getElem_cons_zero, List.getElem_cons_succ]; go_simp; first | done | with_reducible rfl)
  simp only [List.getElem_toArray, List.getElem_cons_zero, List.getElem_cons_succ, Act.put, List.setIfInBounds_toArray, List.set_cons_zero, List.set_cons_succ]
  refine wpAnyH_take (i := 5) (v := ?_) rfl (by kernel_rfl) (by kernel_rfl) (by kernel_rfl) (fun _ _ _ h => h) (Or.inl ⟨by rfl, ?_⟩) (by assumption) ?_
  rotate_left
  ·(intro w hSw; (try dsimp only at hSw); simp only [List.getElem_toArray, List.getElem_cons_zero, List.getElem_cons_succ]; go_simp; first | done | with_reducible rfl)
  simp only [List.getElem_toArray, List.getElem_cons_zero, List.getElem_cons_succ, Act.put, List.setIfInBounds_toArray, List.set_cons_zero, List.set_cons_succ]
  refine wpAnyH_take (i := 6) (v := ?_) rfl (by kernel_rfl) (by kernel_rfl) (by kernel_rfl) (fun _ _ _ h => h) (Or.inl ⟨by rfl, ?_⟩) (by assumption) ?_
  rotate_left
  ·(intro w hSw; (try dsimp only at hSw); simp only [List.getElem_toArray, List.getElem_cons_zero, List.getElem_cons_succ]; go_simp; first | done | with_reducible rfl)
  simp only [List.getElem_toArray, List.getElem_cons_zero, List.getElem_cons_succ, Act.put, List.setIfInBounds_toArray, List.set_cons_zero, List.set_cons_succ]
  refine wpAnyH_take (i := 7) (v := ?_) rfl (by kernel_rfl) (by kernel_rfl) (by kernel_rfl) (fun _ _ _ h => h) (Or.inl ⟨by rfl, ?_⟩) (by assumption) ?_
  rotate_left
  ·(intro w hSw; (try dsimp only at hSw); simp only [List.getElem_toArray, List.getElem_cons_zero, List.getElem_cons_succ]; go_simp; first | done | with_reducible rfl)
  simp only [List.getElem_toArray, List.getElem_cons_zero, List.getElem_cons_succ, Act.put, List.setIfInBounds_toArray, List.set_cons_zero, List.set_cons_succ]
  refine wpAnyH_take (i := 8) (v := _) rfl (by kernel_rfl) (by kernel_rfl) (by kernel_rfl) (fun _ _ _ h => h) (yieldsIf_load_mid (by rfl) 76 _ rfl (g) (784) rfl (BX) _ (fun w hw => hw.2) (Tryz.underlying76) rfl (HIB.out)) (by assumption) ?_
  simp only [List.getElem_toArray, List.getElem_cons_zero, List.getElem_cons_succ, Act.put, List.setIfInBounds_toArray, List.set_cons_zero, List.set_cons_succ]
  refine wpAnyH_take (i := 9) (v := ?_) rfl (by kernel_rfl) (by kernel_rfl) (by kernel_rfl) (fun _ _ _ h => h) (Or.inl ⟨by rfl, ?_⟩) (by assumption) ?_
  rotate_left
  ·(intro w hSw; (try dsimp only at hSw); simp only [List.getElem_toArray, List.getElem_cons_zero, List.getElem_cons_succ]; go_simp; first | done | with_reducible rfl)
  simp only [List.getElem_toArray, List.getElem_cons_zero, List.getElem_cons_succ, Act.put, List.setIfInBounds_toArray, List.set_cons_zero, List.set_cons_succ]
  refine wpAnyH_ready (rs := [10]) (by kernel_rfl) (by simp) ?_
  refine AllReadyH.cons rfl (fun K hK => ?_) AllReadyH.nil
  simp only [List.getElem_toArray, List.getElem_cons_zero, List.getElem_cons_succ]
  go_simp
  refine hK.out _ _ ?_ (fun hHeld => ?_)
  ·exact HSW.out _ HWG.out
  clear hK K
  try simp only [Act.put, List.setIfInBounds_toArray, List.set_cons_zero, List.set_cons_succ]
  refine wpAnyH_take (i := 11) (v := ?_) rfl (by kernel_rfl) (by kernel_rfl) (by kernel_rfl) (fun _ _ _ h => h) (Or.inl ⟨by rfl, ?_⟩) (by assumption) ?_
  rotate_left
  ·(intro w hSw; (try dsimp only at hSw); simp only [List.getElem_toArray, List.getElem_cons_zero, List.getElem_cons_succ]; go_simp; first | done | with_reducible rfl)
  simp only [List.getElem_toArray, List.getElem_cons_zero, List.getElem_cons_succ, Act.put, List.setIfInBounds_toArray, List.set_cons_zero, List.set_cons_succ]
  refine wpAnyH_ready (rs := [12]) (by kernel_rfl) (by simp) ?_
  refine AllReadyH.cons rfl (fun K hK => ?_) AllReadyH.nil
  simp only [List.getElem_toArray, List.getElem_cons_zero, List.getElem_cons_succ]
  rw [if_pos (by rfl)]
  refine wp_store_mid 76 _ _ rfl (w.heap.size + 1) 4 BX.toArray rfl rfl HT4.out HI4.out HO4.out ?_
  refine hK.out _ _ (HSW.out _ ((heapSetC _ _ _ _ _ (by omega)).trans HWG.out)) (fun hHeld => ?_)
  clear hK K
  simp only [Act.put, List.setIfInBounds_toArray, List.set_cons_zero, List.set_cons_succ]
  refine wpAnyH_done (by kernel_rfl) ?_ _
  clear hHeld hws hwr ht3 hfz3
  have hc1' := HC1.out
  go_upto_region 30 with fail
  clear ht1 hfzd hc1' hne1 hne2
  go_wp2_with (first
   | (refine wpList_load_mid rfl 78 _ rfl (w.heap.size + 1) 0 rfl IL _ HRC.out Tryz.underlying78 rfl HII.out ?_)
   | (refine wpList_store_mid rfl 78 _ _ rfl w.heap.size 0 IL.toArray rfl rfl HTH2.out HIJ.out HON.out.2 ?_))
  exact bodyPost_ret (v := .tuple #[.agg IL.toArray, .int .i64 (n : Int), .bool true]) (resI3 rfl _ _ _ _ _ rfl rfl rfl HON.out.1 HTH.out) rfl ⟨HFIN.out, _, _, n, true, by rw [HIL.out], g4, rfl, .inr ⟨rfl, _, by rw [HSH.out]; exact HU.out, HG.out.symm, Rd.of_own (World.ownsRow_nil w0 0 5 1)⟩⟩
set_option maxRecDepth 100000 in
set_option maxHeartbeats 6400000 in
theorem ritemOf_less (bs : List UInt8) (hne : 1 ≤ bs.length) (hm : bs.length ≤ 20000) (hh : (bs.headD 0).toNat = 3) (v : Value) (w0 w : World) (hd0 : Rd w0 1 v bs.length (bV bs)) (hbw : Below w0.heap.size w0 w) : Calls Tryz.prog 52 #[v] w (RItP w0 w bs) := by
 have HD0 := Lib.hid hd0
 have HBW := Lib.hid hbw
 have hs : shapeI (((bs.headD 0).toNat : Nat) : Int) = [49, 52, 50] := by
  rw [hh]
  rfl
 obtain ⟨b0, bt, rfl⟩ : ∃ b0 bt, bs = b0 :: bt := by
  cases bs with
  | nil => simp at hne
  | cons a t => exact ⟨_, _, rfl⟩
 have hd := hd0.below hbw
 obtain ⟨ao, cap, rfl, _, _, ⟨_, hc1, hc2⟩, hcell⟩ := hd
 unfold maxLen at hc2
 obtain ⟨b, off, rfl, hbl, hk0⟩ := hcell 0 (.int .u8 (b0.toNat : Int)) rfl
 rw [Nat.add_zero] at hk0
 have hb0 : (b0.toNat : Int) = 3 := by
  have : (b0 :: bt).headD 0 = b0 := rfl
  rw [this] at hh
  omega
 rw [hb0] at hk0
 have HSH := Lib.hid hs
 have HHH := Lib.hid hh
 obtain ⟨m, hmm⟩ : ∃ m, (b0 :: bt).length = m := ⟨_, rfl⟩
 have HMM := Lib.hid hmm
 rw [hmm] at HD0 hc1 hm hne ⊢
 obtain ⟨W1, hW1⟩ : ∃ W, (w.alloc (.cells Tryz.zeroCells78 78)).alloc (.cells Tryz.zeroCells78 78) = W := ⟨_, rfl⟩
 have HF1 := Lib.hid (FinR.new w)
 rw [hW1] at HF1
 have hst := newI0_store (w.alloc (.cells Tryz.zeroCells78 78))
 rw [World.size_alloc, hW1] at hst
 have hk1 : W1.cell? ⟨b, off, none⟩ = some (.int .u8 3) := (HF1.out.below.cell (p := ⟨b, off, none⟩) hbl).trans hk0
 have hz0 : W1.cell? ⟨w.heap.size + 1, 0, none⟩ = some (.int .i64 0) := cellIs HF1.out.bx rfl
 have hfz : ∀ i, W1.frozen? ⟨w.heap.size + 1, i, none⟩ = false := fun i => frozenOf HF1.out.bx i
 have hwk : IntKind.i64.wrap 3 = 3 := IntWalk.i64_in _ (by omega)
 have hm0 : ((m : Int) == 0) = false := bneI (by omega)
 obtain ⟨W2, hW2⟩ : ∃ W, W1.setCell ⟨w.heap.size + 1, 0, none⟩ (.int .i64 3) = W := ⟨_, rfl⟩
 have HF2 := Lib.hid (HF1.out.kind 3)
 rw [hW2] at HF2
 have CU : Hid (Calls Tryz.prog 50 #[.string ⟨#[49, 52, 50]⟩, .slice (some ⟨b, off, none⟩) m cap] W2 fun e w' => ∃ (v' : Value) (q : Nat) (code : Int), e = .returned (.tuple #[v', .int .i64 (q : Int), .int .i64 code]) ∧ Below W2.heap.size W2 w' ∧ ((unpack [49, 52, 50] (b0 :: bt) = none ∧ code = 4) ∨ (code = 0 ∧ ∃ cs, unpack [49, 52, 50] (b0 :: bt) = some (cs.map Prod.fst, q) ∧ RVrow w0 W2.heap.size w' v' cs))) := Lib.hid (by
  have h := runpack_any (strB [49, 52, 50]) HD0.out (bthen HBW.out HF2.out.below) (by omega) (by rw [str_size]; decide)
  rw [chs_str] at h
  exact h.mono fun _ _ hh => ru_of hh)
 have k2 : W2.cell? ⟨w.heap.size + 1, 0, none⟩ = some (.int .i64 3) := cellIs HF2.out.bx rfl
 clear hcell hk0 hb0 hs hmm hh hd0 hbw hbl
 go_enter Tryz.func52, Tryz.ntmps52
 go_upto_region 5 with fail
 clear hst hW1 hk1 hz0 hfz hm0 hwk hW2
 go_wp2_with fail
 refine CU.out.mono ?_
 rintro e w3 ⟨v', n, code, rfl, hb3, hP⟩
 have HF3 := Lib.hid (HF2.out.mono hb3)
 have hk3 : w3.cell? ⟨w.heap.size + 1, 0, none⟩ = some (.int .i64 3) := cellIs HF3.out.bx rfl
 have HB3 := Lib.hid hb3.size
 clear hb3 CU k2
 rcases hP with ⟨hu, rfl⟩ | ⟨rfl, cs, hu, hrow⟩
 ·have HX := HF3
  have HU := Lib.hid hu
  clear hu hk3
  obtain ⟨IL, hIL, hil, hone, hrc, hth, hth2, hii, hij, hfin⟩ := HX.out.fin
  have HIL := Lib.hid hIL
  have HRC := Lib.hid hrc
  have HTH := Lib.hid hth
  have HTH2 := Lib.hid hth2
  have HII := Lib.hid hii
  have HIJ := Lib.hid hij
  have HON := Lib.hid (And.intro hil hone)
  have HFIN := Lib.hid hfin
  clear hIL hil hone hrc hth hth2 hii hij hfin
  go_wp2_with (first
   | (refine wpList_load_mid rfl 78 _ rfl (w.heap.size + 1) 0 rfl IL _ HRC.out Tryz.underlying78 rfl HII.out ?_)
   | (refine wpList_store_mid rfl 78 _ _ rfl w.heap.size 0 IL.toArray rfl rfl HTH2.out HIJ.out HON.out.2 ?_))
  exact bodyPost_ret (v := .tuple #[.agg IL.toArray, .int .i64 0, .bool false]) (resI3 rfl _ _ _ _ _ rfl rfl rfl HON.out.1 HTH.out) rfl ⟨HFIN.out, _, _, 0, false, by rw [HIL.out]; rfl, z256_len, rfl, .inl ⟨rfl, .inl (by rw [HSH.out]; exact HU.out)⟩⟩
 ·have HU := Lib.hid hu
  have hbb := (unpack_blen _ _ _ _ hu).1
  have HHL : Hid (((b0 :: bt).headD 0).toNat = 3) := HHH
  obtain ⟨y1, k1, l1, m1, e1, hu1, he1, hz1⟩ := unpack_cons hu
  obtain ⟨y2, k2, l2, m2, e2, hu2, he2, hz2⟩ := unpack_cons hu1
  obtain ⟨y3, k3, l3, m3, e3, hu3, he3, hz3⟩ := unpack_cons hu2
  have hn3 := unpack_nil hu3
  subst hn3
  subst he3
  subst he2
  obtain ⟨s1, s2, s3, rfl⟩ := map_three he1
  have f1 := lift_49h e1
  rw [HHL.out] at f1
  subst f1
  have g3 := (lift_50 e3).2
  have hg : getI [num 3, y2, y3] = ⟨3, y2.n, 0, (y3.n : Int), z256, op0, 0⟩ := rfl
  obtain ⟨g, capg, rfl, hgl, hgB, hgc, hgm, hget⟩ := rv_cells hrow (by simp)
  simp only [List.length_cons, List.length_nil, Nat.zero_add, Nat.reduceAdd] at hgc ⊢
  have HG := Lib.hid hg
  have hgne : w.heap.size + 1 < g := by have := HF2.out.bx; have := (Array.getElem?_eq_some_iff.1 this).1; omega
  have hne1 : (w.heap.size + 1 = g) = False := eq_false (by omega)
  have hne2 : (g = w.heap.size + 1) = False := eq_false (by omega)
  have HGET := Lib.hid hget
  have HGL := Lib.hid hgl
  clear hrow hu hu1 e1 hz1 hu2 e2 hz2 hu3 e3 hz3 he1 hbb hget hgl hg hgB
  have hwr : IntKind.i64.wrap (y3.n : Int) = (y3.n : Int) := IntWalk.i64_in _ (by omega)
  have hfz3 : ∀ i, w3.frozen? ⟨w.heap.size + 1, i, none⟩ = false := fun i => frozenOf HF3.out.bx i
  obtain ⟨t0, ht0⟩ := HF3.out.cellT (o := 3) (by omega)
  obtain ⟨t1, ht1⟩ := HF3.out.cellT (o := 1) (by omega)
  have c2 : w3.cell? ⟨g, 521, none⟩ = some _ := (HGET.out 2 _ _ rfl).2.2 w3 (Below.refl _ _) 1 _ rfl
  have c1 : w3.cell? ⟨g, 261, none⟩ = some _ := (HGET.out 1 _ _ rfl).2.2 w3 (Below.refl _ _) 1 _ rfl
  have HX : Hid (FinR w ((w3.setCell ⟨w.heap.size + 1, 3, none⟩ (.int .i64 (y3.n : Int))).setCell ⟨w.heap.size + 1, 1, none⟩ (.int .u64 (y2.n : Int))) _ _) := Lib.hid ((HF3.out.blk (y3.n : Int)).vol y2.n)
  obtain ⟨IL, hIL, hil, hone, hrc, hth, hth2, hii, hij, hfin⟩ := HX.out.fin
  have HIL := Lib.hid hIL
  have HRC := Lib.hid hrc
  have HTH := Lib.hid hth
  have HTH2 := Lib.hid hth2
  have HII := Lib.hid hii
  have HIJ := Lib.hid hij
  have HON := Lib.hid (And.intro hil hone)
  have HFIN := Lib.hid hfin
  clear hIL hil hone hrc hth hth2 hii hij hfin
  go_upto_region 30 with fail
  clear hk3 hwr hfz3 ht0 ht1 c2 c1 hne1 hne2
  go_wp2_with (first
   | (refine wpList_load_mid rfl 78 _ rfl (w.heap.size + 1) 0 rfl IL _ HRC.out Tryz.underlying78 rfl HII.out ?_)
   | (refine wpList_store_mid rfl 78 _ _ rfl w.heap.size 0 IL.toArray rfl rfl HTH2.out HIJ.out HON.out.2 ?_))
  exact bodyPost_ret (v := .tuple #[.agg IL.toArray, .int .i64 (n : Int), .bool true]) (resI3 rfl _ _ _ _ _ rfl rfl rfl HON.out.1 HTH.out) rfl ⟨HFIN.out, _, _, n, true, by rw [HIL.out], z256_len, rfl, .inr ⟨rfl, _, by rw [HSH.out]; exact HU.out, HG.out.symm, Rd.of_own (World.ownsRow_nil w0 0 5 1)⟩⟩
set_option maxRecDepth 100000 in
set_option maxHeartbeats 6400000 in
theorem ritemOf_size (bs : List UInt8) (hne : 1 ≤ bs.length) (hm : bs.length ≤ 20000) (hh : (bs.headD 0).toNat = 2) (v : Value) (w0 w : World) (hd0 : Rd w0 1 v bs.length (bV bs)) (hbw : Below w0.heap.size w0 w) : Calls Tryz.prog 52 #[v] w (RItP w0 w bs) := by
 have HD0 := Lib.hid hd0
 have HBW := Lib.hid hbw
 have hs : shapeI (((bs.headD 0).toNat : Nat) : Int) = [49, 52, 50] := by
  rw [hh]
  rfl
 obtain ⟨b0, bt, rfl⟩ : ∃ b0 bt, bs = b0 :: bt := by
  cases bs with
  | nil => simp at hne
  | cons a t => exact ⟨_, _, rfl⟩
 have hd := hd0.below hbw
 obtain ⟨ao, cap, rfl, _, _, ⟨_, hc1, hc2⟩, hcell⟩ := hd
 unfold maxLen at hc2
 obtain ⟨b, off, rfl, hbl, hk0⟩ := hcell 0 (.int .u8 (b0.toNat : Int)) rfl
 rw [Nat.add_zero] at hk0
 have hb0 : (b0.toNat : Int) = 2 := by
  have : (b0 :: bt).headD 0 = b0 := rfl
  rw [this] at hh
  omega
 rw [hb0] at hk0
 have HSH := Lib.hid hs
 have HHH := Lib.hid hh
 obtain ⟨m, hmm⟩ : ∃ m, (b0 :: bt).length = m := ⟨_, rfl⟩
 have HMM := Lib.hid hmm
 rw [hmm] at HD0 hc1 hm hne ⊢
 obtain ⟨W1, hW1⟩ : ∃ W, (w.alloc (.cells Tryz.zeroCells78 78)).alloc (.cells Tryz.zeroCells78 78) = W := ⟨_, rfl⟩
 have HF1 := Lib.hid (FinR.new w)
 rw [hW1] at HF1
 have hst := newI0_store (w.alloc (.cells Tryz.zeroCells78 78))
 rw [World.size_alloc, hW1] at hst
 have hk1 : W1.cell? ⟨b, off, none⟩ = some (.int .u8 2) := (HF1.out.below.cell (p := ⟨b, off, none⟩) hbl).trans hk0
 have hz0 : W1.cell? ⟨w.heap.size + 1, 0, none⟩ = some (.int .i64 0) := cellIs HF1.out.bx rfl
 have hfz : ∀ i, W1.frozen? ⟨w.heap.size + 1, i, none⟩ = false := fun i => frozenOf HF1.out.bx i
 have hwk : IntKind.i64.wrap 2 = 2 := IntWalk.i64_in _ (by omega)
 have hm0 : ((m : Int) == 0) = false := bneI (by omega)
 obtain ⟨W2, hW2⟩ : ∃ W, W1.setCell ⟨w.heap.size + 1, 0, none⟩ (.int .i64 2) = W := ⟨_, rfl⟩
 have HF2 := Lib.hid (HF1.out.kind 2)
 rw [hW2] at HF2
 have CU : Hid (Calls Tryz.prog 50 #[.string ⟨#[49, 52, 50]⟩, .slice (some ⟨b, off, none⟩) m cap] W2 fun e w' => ∃ (v' : Value) (q : Nat) (code : Int), e = .returned (.tuple #[v', .int .i64 (q : Int), .int .i64 code]) ∧ Below W2.heap.size W2 w' ∧ ((unpack [49, 52, 50] (b0 :: bt) = none ∧ code = 4) ∨ (code = 0 ∧ ∃ cs, unpack [49, 52, 50] (b0 :: bt) = some (cs.map Prod.fst, q) ∧ RVrow w0 W2.heap.size w' v' cs))) := Lib.hid (by
  have h := runpack_any (strB [49, 52, 50]) HD0.out (bthen HBW.out HF2.out.below) (by omega) (by rw [str_size]; decide)
  rw [chs_str] at h
  exact h.mono fun _ _ hh => ru_of hh)
 have k2 : W2.cell? ⟨w.heap.size + 1, 0, none⟩ = some (.int .i64 2) := cellIs HF2.out.bx rfl
 clear hcell hk0 hb0 hs hmm hh hd0 hbw hbl
 go_enter Tryz.func52, Tryz.ntmps52
 go_upto_region 5 with fail
 clear hst hW1 hk1 hz0 hfz hm0 hwk hW2
 go_wp2_with fail
 refine CU.out.mono ?_
 rintro e w3 ⟨v', n, code, rfl, hb3, hP⟩
 have HF3 := Lib.hid (HF2.out.mono hb3)
 have hk3 : w3.cell? ⟨w.heap.size + 1, 0, none⟩ = some (.int .i64 2) := cellIs HF3.out.bx rfl
 have HB3 := Lib.hid hb3.size
 clear hb3 CU k2
 rcases hP with ⟨hu, rfl⟩ | ⟨rfl, cs, hu, hrow⟩
 ·have HX := HF3
  have HU := Lib.hid hu
  clear hu hk3
  obtain ⟨IL, hIL, hil, hone, hrc, hth, hth2, hii, hij, hfin⟩ := HX.out.fin
  have HIL := Lib.hid hIL
  have HRC := Lib.hid hrc
  have HTH := Lib.hid hth
  have HTH2 := Lib.hid hth2
  have HII := Lib.hid hii
  have HIJ := Lib.hid hij
  have HON := Lib.hid (And.intro hil hone)
  have HFIN := Lib.hid hfin
  clear hIL hil hone hrc hth hth2 hii hij hfin
  go_wp2_with (first
   | (refine wpList_load_mid rfl 78 _ rfl (w.heap.size + 1) 0 rfl IL _ HRC.out Tryz.underlying78 rfl HII.out ?_)
   | (refine wpList_store_mid rfl 78 _ _ rfl w.heap.size 0 IL.toArray rfl rfl HTH2.out HIJ.out HON.out.2 ?_))
  exact bodyPost_ret (v := .tuple #[.agg IL.toArray, .int .i64 0, .bool false]) (resI3 rfl _ _ _ _ _ rfl rfl rfl HON.out.1 HTH.out) rfl ⟨HFIN.out, _, _, 0, false, by rw [HIL.out]; rfl, z256_len, rfl, .inl ⟨rfl, .inl (by rw [HSH.out]; exact HU.out)⟩⟩
 ·have HU := Lib.hid hu
  have hbb := (unpack_blen _ _ _ _ hu).1
  have HHL : Hid (((b0 :: bt).headD 0).toNat = 2) := HHH
  obtain ⟨y1, k1, l1, m1, e1, hu1, he1, hz1⟩ := unpack_cons hu
  obtain ⟨y2, k2, l2, m2, e2, hu2, he2, hz2⟩ := unpack_cons hu1
  obtain ⟨y3, k3, l3, m3, e3, hu3, he3, hz3⟩ := unpack_cons hu2
  have hn3 := unpack_nil hu3
  subst hn3
  subst he3
  subst he2
  obtain ⟨s1, s2, s3, rfl⟩ := map_three he1
  have f1 := lift_49h e1
  rw [HHL.out] at f1
  subst f1
  have g3 := (lift_50 e3).2
  have hg : getI [num 2, y2, y3] = ⟨2, y2.n, (y3.n : Int), 0, z256, op0, 0⟩ := rfl
  obtain ⟨g, capg, rfl, hgl, hgB, hgc, hgm, hget⟩ := rv_cells hrow (by simp)
  simp only [List.length_cons, List.length_nil, Nat.zero_add, Nat.reduceAdd] at hgc ⊢
  have HG := Lib.hid hg
  have hgne : w.heap.size + 1 < g := by have := HF2.out.bx; have := (Array.getElem?_eq_some_iff.1 this).1; omega
  have hne1 : (w.heap.size + 1 = g) = False := eq_false (by omega)
  have hne2 : (g = w.heap.size + 1) = False := eq_false (by omega)
  have HGET := Lib.hid hget
  have HGL := Lib.hid hgl
  clear hrow hu hu1 e1 hz1 hu2 e2 hz2 hu3 e3 hz3 he1 hbb hget hgl hg hgB
  have hwr : IntKind.i64.wrap (y3.n : Int) = (y3.n : Int) := IntWalk.i64_in _ (by omega)
  have hfz3 : ∀ i, w3.frozen? ⟨w.heap.size + 1, i, none⟩ = false := fun i => frozenOf HF3.out.bx i
  obtain ⟨t0, ht0⟩ := HF3.out.cellT (o := 2) (by omega)
  obtain ⟨t1, ht1⟩ := HF3.out.cellT (o := 1) (by omega)
  have c2 : w3.cell? ⟨g, 521, none⟩ = some _ := (HGET.out 2 _ _ rfl).2.2 w3 (Below.refl _ _) 1 _ rfl
  have c1 : w3.cell? ⟨g, 261, none⟩ = some _ := (HGET.out 1 _ _ rfl).2.2 w3 (Below.refl _ _) 1 _ rfl
  have HX : Hid (FinR w ((w3.setCell ⟨w.heap.size + 1, 2, none⟩ (.int .i64 (y3.n : Int))).setCell ⟨w.heap.size + 1, 1, none⟩ (.int .u64 (y2.n : Int))) _ _) := Lib.hid ((HF3.out.size (y3.n : Int)).vol y2.n)
  obtain ⟨IL, hIL, hil, hone, hrc, hth, hth2, hii, hij, hfin⟩ := HX.out.fin
  have HIL := Lib.hid hIL
  have HRC := Lib.hid hrc
  have HTH := Lib.hid hth
  have HTH2 := Lib.hid hth2
  have HII := Lib.hid hii
  have HIJ := Lib.hid hij
  have HON := Lib.hid (And.intro hil hone)
  have HFIN := Lib.hid hfin
  clear hIL hil hone hrc hth hth2 hii hij hfin
  go_upto_region 30 with fail
  clear hk3 hwr hfz3 ht0 ht1 c2 c1 hne1 hne2
  go_wp2_with (first
   | (refine wpList_load_mid rfl 78 _ rfl (w.heap.size + 1) 0 rfl IL _ HRC.out Tryz.underlying78 rfl HII.out ?_)
   | (refine wpList_store_mid rfl 78 _ _ rfl w.heap.size 0 IL.toArray rfl rfl HTH2.out HIJ.out HON.out.2 ?_))
  exact bodyPost_ret (v := .tuple #[.agg IL.toArray, .int .i64 (n : Int), .bool true]) (resI3 rfl _ _ _ _ _ rfl rfl rfl HON.out.1 HTH.out) rfl ⟨HFIN.out, _, _, n, true, by rw [HIL.out], z256_len, rfl, .inr ⟨rfl, _, by rw [HSH.out]; exact HU.out, HG.out.symm, Rd.of_own (World.ownsRow_nil w0 0 5 1)⟩⟩
set_option maxRecDepth 100000 in
set_option maxHeartbeats 6400000 in
theorem ritemOf_gone (bs : List UInt8) (hne : 1 ≤ bs.length) (hm : bs.length ≤ 20000) (q : Nat) (hq : q < 256) (h2 : q ≠ 2) (h3 : q ≠ 3) (h4 : q ≠ 4) (h5 : q ≠ 5) (hh : ((bs.headD 0).toNat) = q) (v : Value) (w0 w : World) (hd0 : Rd w0 1 v bs.length (bV bs)) (hbw : Below w0.heap.size w0 w) : Calls Tryz.prog 52 #[v] w (RItP w0 w bs) := by
 have HD0 := Lib.hid hd0
 have HBW := Lib.hid hbw
 have hs : shapeI (((bs.headD 0).toNat : Nat) : Int) = [49, 52] := by
  rw [hh]
  unfold shapeI
  rw [if_neg (by omega), if_neg (by omega), if_neg (by omega)]
 obtain ⟨b0, bt, rfl⟩ : ∃ b0 bt, bs = b0 :: bt := by
  cases bs with
  | nil => simp at hne
  | cons a t => exact ⟨_, _, rfl⟩
 have hd := hd0.below hbw
 obtain ⟨ao, cap, rfl, _, _, ⟨_, hc1, hc2⟩, hcell⟩ := hd
 unfold maxLen at hc2
 obtain ⟨b, off, rfl, hbl, hk0⟩ := hcell 0 (.int .u8 (b0.toNat : Int)) rfl
 rw [Nat.add_zero] at hk0
 have hb0 : (b0.toNat : Int) = (q : Int) := by
  have : (b0 :: bt).headD 0 = b0 := rfl
  rw [this] at hh
  omega
 rw [hb0] at hk0
 have HSH := Lib.hid hs
 have HHH := Lib.hid hh
 obtain ⟨m, hmm⟩ : ∃ m, (b0 :: bt).length = m := ⟨_, rfl⟩
 have HMM := Lib.hid hmm
 rw [hmm] at HD0 hc1 hm hne ⊢
 obtain ⟨W1, hW1⟩ : ∃ W, (w.alloc (.cells Tryz.zeroCells78 78)).alloc (.cells Tryz.zeroCells78 78) = W := ⟨_, rfl⟩
 have HF1 := Lib.hid (FinR.new w)
 rw [hW1] at HF1
 have hst := newI0_store (w.alloc (.cells Tryz.zeroCells78 78))
 rw [World.size_alloc, hW1] at hst
 have hk1 : W1.cell? ⟨b, off, none⟩ = some (.int .u8 (q : Int)) := (HF1.out.below.cell (p := ⟨b, off, none⟩) hbl).trans hk0
 have hz0 : W1.cell? ⟨w.heap.size + 1, 0, none⟩ = some (.int .i64 0) := cellIs HF1.out.bx rfl
 have hfz : ∀ i, W1.frozen? ⟨w.heap.size + 1, i, none⟩ = false := fun i => frozenOf HF1.out.bx i
 have hwk : IntKind.i64.wrap (q : Int) = (q : Int) := IntWalk.i64_in _ (by omega)
 have hm0 : ((m : Int) == 0) = false := bneI (by omega)
 obtain ⟨W2, hW2⟩ : ∃ W, W1.setCell ⟨w.heap.size + 1, 0, none⟩ (.int .i64 (q : Int)) = W := ⟨_, rfl⟩
 have HF2 := Lib.hid (HF1.out.kind (q : Int))
 rw [hW2] at HF2
 have CU : Hid (Calls Tryz.prog 50 #[.string ⟨#[49, 52]⟩, .slice (some ⟨b, off, none⟩) m cap] W2 fun e w' => ∃ (v' : Value) (q : Nat) (code : Int), e = .returned (.tuple #[v', .int .i64 (q : Int), .int .i64 code]) ∧ Below W2.heap.size W2 w' ∧ ((unpack [49, 52] (b0 :: bt) = none ∧ code = 4) ∨ (code = 0 ∧ ∃ cs, unpack [49, 52] (b0 :: bt) = some (cs.map Prod.fst, q) ∧ RVrow w0 W2.heap.size w' v' cs))) := Lib.hid (by
  have h := runpack_any (strB [49, 52]) HD0.out (bthen HBW.out HF2.out.below) (by omega) (by rw [str_size]; decide)
  rw [chs_str] at h
  exact h.mono fun _ _ hh => ru_of hh)
 have k2 : W2.cell? ⟨w.heap.size + 1, 0, none⟩ = some (.int .i64 (q : Int)) := cellIs HF2.out.bx rfl
 have g5 : ((q : Int) == 5) = false := bneI (by omega)
 have g2 : ((q : Int) == 2) = false := bneI (by omega)
 have g4 : ((q : Int) == 4) = false := bneI (by omega)
 have g3 : ((q : Int) == 3) = false := bneI (by omega)
 clear hcell hk0 hb0 hs hmm hh hd0 hbw hbl
 go_enter Tryz.func52, Tryz.ntmps52
 go_upto_region 5 with fail
 clear hst hW1 hk1 hz0 hfz hm0 hwk hW2
 go_wp2_with fail
 refine CU.out.mono ?_
 rintro e w3 ⟨v', n, code, rfl, hb3, hP⟩
 have HF3 := Lib.hid (HF2.out.mono hb3)
 have hk3 : w3.cell? ⟨w.heap.size + 1, 0, none⟩ = some (.int .i64 (q : Int)) := cellIs HF3.out.bx rfl
 have HB3 := Lib.hid hb3.size
 clear hb3 CU k2
 rcases hP with ⟨hu, rfl⟩ | ⟨rfl, cs, hu, hrow⟩
 ·have HX := HF3
  have HU := Lib.hid hu
  clear hu hk3
  obtain ⟨IL, hIL, hil, hone, hrc, hth, hth2, hii, hij, hfin⟩ := HX.out.fin
  have HIL := Lib.hid hIL
  have HRC := Lib.hid hrc
  have HTH := Lib.hid hth
  have HTH2 := Lib.hid hth2
  have HII := Lib.hid hii
  have HIJ := Lib.hid hij
  have HON := Lib.hid (And.intro hil hone)
  have HFIN := Lib.hid hfin
  clear hIL hil hone hrc hth hth2 hii hij hfin
  go_wp2_with (first
   | (refine wpList_load_mid rfl 78 _ rfl (w.heap.size + 1) 0 rfl IL _ HRC.out Tryz.underlying78 rfl HII.out ?_)
   | (refine wpList_store_mid rfl 78 _ _ rfl w.heap.size 0 IL.toArray rfl rfl HTH2.out HIJ.out HON.out.2 ?_))
  exact bodyPost_ret (v := .tuple #[.agg IL.toArray, .int .i64 0, .bool false]) (resI3 rfl _ _ _ _ _ rfl rfl rfl HON.out.1 HTH.out) rfl ⟨HFIN.out, _, _, 0, false, by rw [HIL.out]; rfl, z256_len, rfl, .inl ⟨rfl, .inl (by rw [HSH.out]; exact HU.out)⟩⟩
 ·have HU := Lib.hid hu
  have hbb := (unpack_blen _ _ _ _ hu).1
  have HHL : Hid (((b0 :: bt).headD 0).toNat = q) := HHH
  obtain ⟨y1, k1, l1, m1, e1, hu1, he1, hz1⟩ := unpack_cons hu
  obtain ⟨y2, k2, l2, m2, e2, hu2, he2, hz2⟩ := unpack_cons hu1
  have hn2 := unpack_nil hu2
  subst hn2
  subst he2
  obtain ⟨s1, s2, rfl⟩ := map_two he1
  have f1 := lift_49h e1
  rw [HHL.out] at f1
  subst f1
  have hg : getI [num q, y2] = ⟨(q : Int), y2.n, 0, 0, z256, op0, 0⟩ := by
   unfold getI
   have e0 : (([num q, y2] : List V).headD (num 0)).n = q := rfl
   have e1 : ((([num q, y2] : List V).drop 1).headD (num 0)) = y2 := rfl
   dsimp only
   rw [e0, e1, if_neg (by omega), if_neg (by omega), if_neg (by omega), if_neg (by omega)]
  obtain ⟨g, capg, rfl, hgl, hgB, hgc, hgm, hget⟩ := rv_cells hrow (by simp)
  simp only [List.length_cons, List.length_nil, Nat.zero_add, Nat.reduceAdd] at hgc ⊢
  have HG := Lib.hid hg
  have hgne : w.heap.size + 1 < g := by have := HF2.out.bx; have := (Array.getElem?_eq_some_iff.1 this).1; omega
  have hne1 : (w.heap.size + 1 = g) = False := eq_false (by omega)
  have hne2 : (g = w.heap.size + 1) = False := eq_false (by omega)
  have HGET := Lib.hid hget
  have HGL := Lib.hid hgl
  clear hrow hu hu1 e1 hz1 hu2 e2 hz2 he1 hbb hget hgl hg hgB
  have hfz3 : ∀ i, w3.frozen? ⟨w.heap.size + 1, i, none⟩ = false := fun i => frozenOf HF3.out.bx i
  obtain ⟨t1, ht1⟩ := HF3.out.cellT (o := 1) (by omega)
  have c1 : w3.cell? ⟨g, 261, none⟩ = some _ := (HGET.out 1 _ _ rfl).2.2 w3 (Below.refl _ _) 1 _ rfl
  have HX : Hid (FinR w (w3.setCell ⟨w.heap.size + 1, 1, none⟩ (.int .u64 (y2.n : Int))) _ _) := Lib.hid (HF3.out.vol y2.n)
  obtain ⟨IL, hIL, hil, hone, hrc, hth, hth2, hii, hij, hfin⟩ := HX.out.fin
  have HIL := Lib.hid hIL
  have HRC := Lib.hid hrc
  have HTH := Lib.hid hth
  have HTH2 := Lib.hid hth2
  have HII := Lib.hid hii
  have HIJ := Lib.hid hij
  have HON := Lib.hid (And.intro hil hone)
  have HFIN := Lib.hid hfin
  clear hIL hil hone hrc hth hth2 hii hij hfin
  go_upto_region 30 with fail
  clear hk3 hfz3 ht1 c1 hne1 hne2
  go_wp2_with (first
   | (refine wpList_load_mid rfl 78 _ rfl (w.heap.size + 1) 0 rfl IL _ HRC.out Tryz.underlying78 rfl HII.out ?_)
   | (refine wpList_store_mid rfl 78 _ _ rfl w.heap.size 0 IL.toArray rfl rfl HTH2.out HIJ.out HON.out.2 ?_))
  exact bodyPost_ret (v := .tuple #[.agg IL.toArray, .int .i64 (n : Int), .bool true]) (resI3 rfl _ _ _ _ _ rfl rfl rfl HON.out.1 HTH.out) rfl ⟨HFIN.out, _, _, n, true, by rw [HIL.out], z256_len, rfl, .inr ⟨rfl, _, by rw [HSH.out]; exact HU.out, HG.out.symm, Rd.of_own (World.ownsRow_nil w0 0 5 1)⟩⟩
theorem ritemOf_any (bs : List UInt8) (hm : bs.length ≤ 20000) (v : Value) (w0 w : World) (hd0 : Rd w0 1 v bs.length (bV bs)) (hbw : Below w0.heap.size w0 w) : Calls Tryz.prog 52 #[v] w (RItP w0 w bs) := by
 by_cases hne : 1 ≤ bs.length
 ·have hq : (bs.headD 0).toNat < 256 := UInt8.toNat_lt _
  by_cases h5 : (bs.headD 0).toNat = 5
  ·exact ritemOf_op bs hne hm h5 v w0 w hd0 hbw
  by_cases h4 : (bs.headD 0).toNat = 4
  ·exact ritemOf_data bs hne hm h4 v w0 w hd0 hbw
  by_cases h3 : (bs.headD 0).toNat = 3
  ·exact ritemOf_less bs hne hm h3 v w0 w hd0 hbw
  by_cases h2 : (bs.headD 0).toNat = 2
  ·exact ritemOf_size bs hne hm h2 v w0 w hd0 hbw
  ·exact ritemOf_gone bs hne hm _ hq h2 h3 h4 h5 rfl v w0 w hd0 hbw
 ·have : bs = [] := List.eq_nil_of_length_eq_zero (by omega)
  subst this
  exact ritemOf_nil v w0 w (hd0.below hbw)
end Go.Proofs.YtgkelbdgdhkeoaaGreat
