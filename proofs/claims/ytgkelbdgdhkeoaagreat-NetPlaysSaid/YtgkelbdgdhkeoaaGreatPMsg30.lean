/- message.itemOf, walked. -/
import Derived.Test.YtgkelbdgdhkeoaaGreatPMsg14
import Derived.Test.YtgkelbdgdhkeoaaGreatPMsg21
import Derived.Test.YtgkelbdgdhkeoaaGreatPMsg10
import Derived.Test.YtgkelbdgdhkeoaaGreatPCR
namespace Go.Proofs.YtgkelbdgdhkeoaaGreat
open Go.RowKit
set_option linter.unusedVariables false
set_option linter.unusedSimpArgs false
open Wire Cmd
theorem AnyO.is_blk {base : Nat} {w : World} {u : Value} {l : List UInt8} (h : AnyO base w u (blk l)) : u = .iface 76 (bA l) ∧ l.length = 256 := by
 rcases h with ⟨h, _⟩ | ⟨h, _⟩ | ⟨h, _⟩ | ⟨_, h, h2⟩
 ·exact absurd h (by show ¬ (35 : UInt8) = 56; decide)
 ·exact absurd h (by show ¬ (35 : UInt8) = 63; decide)
 ·exact absurd h (by show ¬ (35 : UInt8) = 42; decide)
 ·exact ⟨h, h2⟩
theorem AnyO.is_flag {base : Nat} {w : World} {u : Value} {y : Bool} (h : AnyO base w u (flag y)) : u = .iface 4 (.bool y) := by
 rcases h with ⟨h, _⟩ | ⟨_, h⟩ | ⟨h, _⟩ | ⟨h, _⟩
 ·exact absurd h (by show ¬ (63 : UInt8) = 56; decide)
 ·exact h
 ·exact absurd h (by show ¬ (63 : UInt8) = 42; decide)
 ·exact absurd h (by show ¬ (63 : UInt8) = 35; decide)
/-- A row's cells. -/
theorem own_cells {W : World} {B n : Nat} {v : Value} {xs : List Value} (h : W.ownsRow B 20 1 v n xs) (hn : 0 < n) : ∃ g cap, v = .slice (some ⟨g, 0, none⟩) n cap ∧ g < W.heap.size ∧ B ≤ g ∧ n ≤ cap ∧ cap ≤ 9223372036854775807 ∧ ∀ (j : Nat) (x : Value), xs[j]? = some x → W.cell? ⟨g, j, none⟩ = some x := by
 rcases h.2 with ⟨_, h0⟩ | ⟨g, cap, cur, rfl, hg, hh, hle, hm, _⟩
 ·omega
 ·refine ⟨g, cap, rfl, (Array.getElem?_eq_some_iff.1 hh).1, hg, hle, by unfold maxLen at hm; exact hm, fun j x hj => ?_⟩
  obtain ⟨ao, cap', he, _, _, _, hc⟩ := Rd.of_own h
  obtain ⟨b, off, e, _, h3⟩ := hc j x hj
  simp only [Value.slice.injEq] at he
  rw [← he.1] at e
  obtain ⟨rfl, rfl⟩ : g = b ∧ 0 = off := by simpa using e
  rw [Nat.zero_add] at h3
  exact h3
theorem zeroI268 : Tryz.zeroCells78.size = 268 := by kernel_rfl
def itZ (k : Int) : List Value := itL ⟨k, 0, 0, 0, z256, op0, 0⟩ (.slice none 0 0)
theorem itZ_eq (k : Int) : Tryz.zeroCells78.toList.set 0 (.int .i64 k) = itZ k := by kernel_rfl
theorem itZ_len (k : Int) : (itZ k).length = 268 := by kernel_rfl
theorem newI_store (w : World) (k : Int) : (storeCells ⟨w.heap.size, 0, none⟩ (Tryz.zeroCells78.toList.set 0 (.int .i64 k))).run Tryz.prog (w.alloc (.cells Tryz.zeroCells78 78)) = .ok () (w.alloc (.cells (itZ k).toArray 78)) := by
 rw [itZ_eq]
 exact run_storeNew (P := Tryz.prog) w 78 Tryz.zeroCells78 (itZ k).toArray (by rw [zeroI268, List.size_toArray, itZ_len]) (by
  have h : ∀ u ∈ itZ k, u.oneCell' = true := itL_one (i := ⟨k, 0, 0, 0, z256, op0, 0⟩) (sl := .slice none 0 0) rfl
  simpa using h)
theorem all_oneL {l : List Value} (h : ∀ u ∈ l, u.oneCell' = true) : l.toArray.all (·.oneCell') = true := by
 rw [← Array.all_toList]
 exact List.all_eq_true.2 h
/-- An item's box. -/
def BI (X : World) (P : Nat) (i : It0) (sl : Value) : Prop := X.heap[P]? = some (.cells (itL i sl).toArray 78 (0, 0))
theorem itL_parts (i : It0) (sl : Value) : itL i sl = ([.int .i64 i.k, .int .u64 (i.vol : Int), .int .i64 i.size, .int .i64 i.blk] ++ bV i.data) ++ (opL i.op sl ++ [.int .i64 i.blocks]) := by simp [itL]
theorem itL_parts2 (i : It0) (sl : Value) : itL i sl = (([.int .i64 i.k, .int .u64 (i.vol : Int), .int .i64 i.size, .int .i64 i.blk] ++ bV i.data) ++ opL i.op sl) ++ (.int .i64 i.blocks :: []) := by simp [itL]
theorem BI.vol {X : World} {P : Nat} {i : It0} {sl : Value} (h : BI X P i sl) (n : Nat) : BI (X.setCell ⟨P, 1, none⟩ (.int .u64 (n : Int))) P { i with vol := n } sl :=
 setCell_heap (A := [.int .i64 i.k]) (y := .int .u64 (n : Int)) h
theorem BI.size {X : World} {P : Nat} {i : It0} {sl : Value} (h : BI X P i sl) (n : Int) : BI (X.setCell ⟨P, 2, none⟩ (.int .i64 n)) P { i with size := n } sl :=
 setCell_heap (A := [.int .i64 i.k, .int .u64 (i.vol : Int)]) (y := .int .i64 n) h
theorem BI.blk {X : World} {P : Nat} {i : It0} {sl : Value} (h : BI X P i sl) (n : Int) : BI (X.setCell ⟨P, 3, none⟩ (.int .i64 n)) P { i with blk := n } sl :=
 setCell_heap (A := [.int .i64 i.k, .int .u64 (i.vol : Int), .int .i64 i.size]) (y := .int .i64 n) h
theorem BI.blocks {X : World} {P : Nat} {i : It0} {sl : Value} (h : BI X P i sl) (hd : i.data.length = 256) (n : Int) : BI (X.setCell ⟨P, 267, none⟩ (.int .i64 n)) P { i with blocks := n } sl := by
 unfold BI at h ⊢
 rw [itL_parts2] at h
 have h1 := setCell_heap (y := .int .i64 n) h
 have e : (([.int .i64 i.k, .int .u64 (i.vol : Int), .int .i64 i.size, .int .i64 i.blk] ++ bV i.data) ++ opL i.op sl : List Value).length = 267 := by simp [bV_len, hd, opL_len]
 rw [e] at h1
 rw [h1, itL_parts2]
theorem BI.data {X : World} {P : Nat} {i : It0} {sl : Value} (h : BI X P i sl) (d : List UInt8) (hd : i.data.length = d.length) : BI (X.setCells P 4 (bV d)) P { i with data := d } sl := by
 have h' : X.heap[P]? = some (.cells (([.int .i64 i.k, .int .u64 (i.vol : Int), .int .i64 i.size, .int .i64 i.blk] : List Value) ++ (bV i.data ++ (opL i.op sl ++ ([.int .i64 i.blocks] : List Value)))).toArray 78 (0, 0)) := h
 exact setCells_heap (bV d) X _ (bV i.data) _ (by rw [bV_len, bV_len, hd]) h'
theorem BI.op {X : World} {P : Nat} {i : It0} {sl : Value} (h : BI X P i sl) (hd : i.data.length = 256) (o : Op0) (sl' : Value) : BI (X.setCells P 260 (opL o sl')) P { i with op := o } sl' := by
 unfold BI at h ⊢
 rw [itL_parts] at h
 have h1 := setCells_heap (opL o sl') X _ (opL i.op sl) [.int .i64 i.blocks] rfl h
 have e : ([.int .i64 i.k, .int .u64 (i.vol : Int), .int .i64 i.size, .int .i64 i.blk] ++ bV i.data : List Value).length = 260 := by simp [bV_len, hd]
 rw [e] at h1
 rw [h1, itL_parts]
theorem BI.there {X : World} {P : Nat} {i : It0} {sl : Value} (h : BI X P i sl) (hd : i.data.length = 256) {o n : Nat} (hn : o + n ≤ 268) : X.there P o n := there_mid (N := 268) h (by rw [List.size_toArray]; exact itL_len hd) hn
theorem BI.cellT {X : World} {P : Nat} {i : It0} {sl : Value} (h : BI X P i sl) (hd : i.data.length = 256) {o : Nat} (ho : o < 268) : ∃ u, X.cell? ⟨P, o, none⟩ = some u := by
 have := (h.there hd (o := o) (n := 1) (by omega) 0 (by omega)).1
 exact Option.isSome_iff_exists.1 this
theorem BI.mono {X Y : World} {P : Nat} {i : It0} {sl : Value} (h : BI X P i sl) (hb : Below X.heap.size X Y) : BI Y P i sl := (hb.block _ (Array.getElem?_eq_some_iff.1 h).1).trans h
theorem resI {w : World} {fn : Func} {p : Tmp} (h : fn.results = #[.cell p 78]) (tmps : Array Value) (B : Nat) (CS : List Value) (hp : tmps.getD p undef = .pointer (some ⟨B, 0, none⟩)) (hl : CS.length = 268) (ht : w.there B 0 268) :
  (results fn tmps).run Tryz.prog (w.setCells B 0 CS) = .ok (.agg CS.toArray) (w.setCells B 0 CS) :=
 results_cell_mid h tmps _ B 0 CS _ hp (World.rangeAt_setCells_same w _ _ _ (by rw [hl]; exact ht)) Tryz.underlying78 rfl (by rw [hl]; exact infoIt)
/-- What itemOf answers. -/
def ItOfP (w : World) (i : It0) (e : Ending) (w' : World) : Prop := Below w.heap.size w w' ∧ ∃ sl, e = .returned (.agg (itL i sl).toArray) ∧ w'.ownsRow w.heap.size 5 1 sl i.op.data.length (bV i.op.data)
set_option maxRecDepth 100000 in
set_option maxHeartbeats 6400000 in
theorem itemOf_gone (q0 n : Nat) (hq : q0 < 256) (h2 : q0 ≠ 2) (h3 : q0 ≠ 3) (h4 : q0 ≠ 4) (h5 : q0 ≠ 5) (v : Value) (w : World) (B : Nat) (hown : w.ownsRow B 20 1 v 2 [.iface 41 (.int .u64 (q0 : Int)), .iface 41 (.int .u64 (n : Int))]) :
  Calls Tryz.prog 61 #[v] w (ItOfP w ⟨(q0 : Int), n, 0, 0, z256, op0, 0⟩) := by
 obtain ⟨g, cap, rfl, hgl, _, hnc, hcm, hcell⟩ := own_cells hown (by omega)
 have HC := Lib.hid (fun (X : World) (hX : Below w.heap.size w X) (j : Nat) (x : Value) hj => (hX.cell (p := ⟨g, j, none⟩) hgl).trans (hcell j x hj))
 have x0 := HC.out (w.alloc (.cells Tryz.zeroCells78 78)) (balloc (Below.refl _ _) _) 0 _ rfl
 have hst := newI_store (w.alloc (.cells Tryz.zeroCells78 78)) (q0 : Int)
 rw [World.size_alloc] at hst
 have hwq : IntKind.i64.wrap (q0 : Int) = (q0 : Int) := IntWalk.i64_in _ (by omega)
 obtain ⟨W1, hW1⟩ : ∃ W, (w.alloc (.cells Tryz.zeroCells78 78)).alloc (.cells (itZ (q0 : Int)).toArray 78) = W := ⟨_, rfl⟩
 have HB1 : Hid (Below w.heap.size w W1) := Lib.hid (by rw [← hW1]; exact balloc (balloc (Below.refl _ _) _) _)
 have HI1 : Hid (BI W1 (w.heap.size + 1) ⟨(q0 : Int), 0, 0, 0, z256, op0, 0⟩ (.slice none 0 0)) := Lib.hid (by
  rw [← hW1]
  have h := heap_alloc_new (w.alloc (.cells Tryz.zeroCells78 78)) (.cells (itZ (q0 : Int)).toArray 78)
  rw [World.size_alloc] at h
  exact h)
 have HZ1 : Hid (W1.heap[w.heap.size]? = some (.cells Tryz.zeroCells78 78 (0, 0))) := Lib.hid (by
  rw [← hW1]
  exact (Below.heap_alloc _ _ _ (by simp)).trans (heap_alloc_new w _))
 have hk0 : W1.cell? ⟨w.heap.size + 1, 0, none⟩ = some (.int .i64 (q0 : Int)) := cellIs HI1.out rfl
 have hfz : ∀ i, W1.frozen? ⟨w.heap.size + 1, i, none⟩ = false := fun i => frozenOf HI1.out i
 have hne : (w.heap.size + 1 = g) = False := eq_false (by omega)
 have hne2 : (g = w.heap.size + 1) = False := eq_false (by omega)
 have HS1 : Hid (W1.heap.size = w.heap.size + 2) := Lib.hid (by rw [← hW1]; simp)
 have HGL := Lib.hid hgl
 clear hcell hown hgl
 go_enter Tryz.func61, Tryz.ntmps61
 go_upto_region 2 with (go_at_call 37; refine (number_any _ _).mono ?_; rintro e wx ⟨rfl, rfl⟩)
 clear hst x0 hW1 hwq
 have x1 := HC.out W1 HB1.out 1 _ rfl
 have g5 : ((q0 : Int) == 5) = false := bneI (by omega)
 have g2 : ((q0 : Int) == 2) = false := bneI (by omega)
 have g4 : ((q0 : Int) == 4) = false := bneI (by omega)
 have g3 : ((q0 : Int) == 3) = false := bneI (by omega)
 obtain ⟨t1, ht1⟩ := HI1.out.cellT z256_len (o := 1) (by omega)
 have HF : Hid (BI (W1.setCell ⟨w.heap.size + 1, 1, none⟩ (.int .u64 (n : Int))) (w.heap.size + 1) ⟨(q0 : Int), n, 0, 0, z256, op0, 0⟩ (.slice none 0 0)) := Lib.hid (HI1.out.vol n)
 have HZF : Hid ((W1.setCell ⟨w.heap.size + 1, 1, none⟩ (.int .u64 (n : Int))).heap[w.heap.size]? = some (.cells Tryz.zeroCells78 78 (0, 0))) := Lib.hid ((Below.heap_setCell _ ⟨w.heap.size + 1, 1, none⟩ _ _ (by simp)).trans (HZ1.out))
 have HBF : Hid (Below w.heap.size w (W1.setCell ⟨w.heap.size + 1, 1, none⟩ (.int .u64 (n : Int)))) := Lib.hid ((HB1.out).setCell (p := ⟨w.heap.size + 1, 1, none⟩) (Nat.le_succ _) _)
 obtain ⟨IL, hIL, hil, hone⟩ : ∃ L, itL ⟨(q0 : Int), n, 0, 0, z256, op0, 0⟩ (.slice none 0 0) = L ∧ L.length = 268 ∧ L.toArray.all (·.oneCell') = true := ⟨_, rfl, itL_len z256_len, by rw [← Array.all_toList]; exact List.all_eq_true.2 (itL_one rfl)⟩
 have HIL := Lib.hid hIL
 have HRC : Hid ((W1.setCell ⟨w.heap.size + 1, 1, none⟩ (.int .u64 (n : Int))).rangeAt (w.heap.size + 1) 0 IL) := Lib.hid (fun j u hj => by
  rw [Nat.zero_add]
  rw [← HIL.out] at hj
  exact cellIs HF.out (by simpa using hj))
 have HTH : Hid ((W1.setCell ⟨w.heap.size + 1, 1, none⟩ (.int .u64 (n : Int))).there w.heap.size 0 268) := Lib.hid (there_of HZF.out zeroI268)
 have HTH2 : Hid ((W1.setCell ⟨w.heap.size + 1, 1, none⟩ (.int .u64 (n : Int))).there w.heap.size 0 IL.toArray.size) := Lib.hid (there_mid HZF.out zeroI268 (by rw [List.size_toArray, hil]; omega))
 have HII : Hid ((Tryz.prog.info? 78).map (·.size) = some IL.length) := Lib.hid (by rw [hil]; exact infoIt)
 have HIJ : Hid ((Tryz.prog.info? 78).map (·.size) = some IL.toArray.size) := Lib.hid (by rw [List.size_toArray, hil]; exact infoIt)
 have HON := Lib.hid (And.intro hil hone)
 have HFIN : Hid (Below w.heap.size w ((W1.setCell ⟨w.heap.size + 1, 1, none⟩ (.int .u64 (n : Int))).setCells w.heap.size 0 IL)) := Lib.hid (belowSetC (Nat.le_refl _) _ _ _ HBF.out)
 have HOW : Hid (((W1.setCell ⟨w.heap.size + 1, 1, none⟩ (.int .u64 (n : Int))).setCells w.heap.size 0 IL).ownsRow w.heap.size 5 1 (.slice none 0 0) 0 []) := Lib.hid (World.ownsRow_nil _ _ _ _)
 clear hIL hil hone
 go_upto_region 14 with (first
  | (go_at_call 37; refine (number_any _ _).mono ?_; rintro e wx ⟨rfl, rfl⟩))
 clear hk0 hfz hne hne2 x1 ht1
 go_wp2_with (first
  | (refine wpList_load_mid rfl 78 _ rfl (w.heap.size + 1) 0 rfl IL _ HRC.out Tryz.underlying78 rfl HII.out ?_)
  | (refine wpList_store_mid rfl 78 _ _ rfl w.heap.size 0 IL.toArray rfl rfl HTH2.out HIJ.out HON.out.2 ?_))
 exact bodyPost_ret (v := .agg IL.toArray) (resI rfl _ _ _ rfl HON.out.1 HTH.out) rfl ⟨HFIN.out, _, by rw [HIL.out], HOW.out⟩
set_option maxRecDepth 100000 in
set_option maxHeartbeats 6400000 in
theorem itemOf_size (n q : Nat) (hq : q < 4294967296) (v : Value) (w : World) (B : Nat) (hown : w.ownsRow B 20 1 v 3 [.iface 41 (.int .u64 2), .iface 41 (.int .u64 (n : Int)), .iface 41 (.int .u64 (q : Int))]) :
  Calls Tryz.prog 61 #[v] w (ItOfP w ⟨2, n, (q : Int), 0, z256, op0, 0⟩) := by
 obtain ⟨g, cap, rfl, hgl, _, hnc, hcm, hcell⟩ := own_cells hown (by omega)
 have HC := Lib.hid (fun (X : World) (hX : Below w.heap.size w X) (j : Nat) (x : Value) hj => (hX.cell (p := ⟨g, j, none⟩) hgl).trans (hcell j x hj))
 have x0 := HC.out (w.alloc (.cells Tryz.zeroCells78 78)) (balloc (Below.refl _ _) _) 0 _ rfl
 have hst := newI_store (w.alloc (.cells Tryz.zeroCells78 78)) 2
 rw [World.size_alloc] at hst
 have hwq : IntKind.i64.wrap 2 = 2 := IntWalk.i64_in _ (by omega)
 obtain ⟨W1, hW1⟩ : ∃ W, (w.alloc (.cells Tryz.zeroCells78 78)).alloc (.cells (itZ 2).toArray 78) = W := ⟨_, rfl⟩
 have HB1 : Hid (Below w.heap.size w W1) := Lib.hid (by rw [← hW1]; exact balloc (balloc (Below.refl _ _) _) _)
 have HI1 : Hid (BI W1 (w.heap.size + 1) ⟨2, 0, 0, 0, z256, op0, 0⟩ (.slice none 0 0)) := Lib.hid (by
  rw [← hW1]
  have h := heap_alloc_new (w.alloc (.cells Tryz.zeroCells78 78)) (.cells (itZ 2).toArray 78)
  rw [World.size_alloc] at h
  exact h)
 have HZ1 : Hid (W1.heap[w.heap.size]? = some (.cells Tryz.zeroCells78 78 (0, 0))) := Lib.hid (by
  rw [← hW1]
  exact (Below.heap_alloc _ _ _ (by simp)).trans (heap_alloc_new w _))
 have hk0 : W1.cell? ⟨w.heap.size + 1, 0, none⟩ = some (.int .i64 2) := cellIs HI1.out rfl
 have hfz : ∀ i, W1.frozen? ⟨w.heap.size + 1, i, none⟩ = false := fun i => frozenOf HI1.out i
 have hne : (w.heap.size + 1 = g) = False := eq_false (by omega)
 have hne2 : (g = w.heap.size + 1) = False := eq_false (by omega)
 have HS1 : Hid (W1.heap.size = w.heap.size + 2) := Lib.hid (by rw [← hW1]; simp)
 have HGL := Lib.hid hgl
 clear hcell hown hgl
 go_enter Tryz.func61, Tryz.ntmps61
 go_upto_region 2 with (go_at_call 37; refine (number_any _ _).mono ?_; rintro e wx ⟨rfl, rfl⟩)
 clear hst x0 hW1 hwq
 have x1 := HC.out W1 HB1.out 1 _ rfl
 have x2 := HC.out W1 HB1.out 2 _ rfl
 have hwr : IntKind.i64.wrap (q : Int) = (q : Int) := IntWalk.i64_in _ (by omega)
 obtain ⟨t1, ht1⟩ := HI1.out.cellT z256_len (o := 1) (by omega)
 obtain ⟨t2, ht2⟩ := HI1.out.cellT z256_len (o := 2) (by omega)
 have HF : Hid (BI ((W1.setCell ⟨w.heap.size + 1, 2, none⟩ (.int .i64 (q : Int))).setCell ⟨w.heap.size + 1, 1, none⟩ (.int .u64 (n : Int))) (w.heap.size + 1) ⟨2, n, (q : Int), 0, z256, op0, 0⟩ (.slice none 0 0)) := Lib.hid ((HI1.out.size (q : Int)).vol n)
 have HZF : Hid (((W1.setCell ⟨w.heap.size + 1, 2, none⟩ (.int .i64 (q : Int))).setCell ⟨w.heap.size + 1, 1, none⟩ (.int .u64 (n : Int))).heap[w.heap.size]? = some (.cells Tryz.zeroCells78 78 (0, 0))) := Lib.hid ((Below.heap_setCell _ ⟨w.heap.size + 1, 1, none⟩ _ _ (by simp)).trans ((Below.heap_setCell _ ⟨w.heap.size + 1, 2, none⟩ _ _ (by simp)).trans (HZ1.out)))
 have HBF : Hid (Below w.heap.size w ((W1.setCell ⟨w.heap.size + 1, 2, none⟩ (.int .i64 (q : Int))).setCell ⟨w.heap.size + 1, 1, none⟩ (.int .u64 (n : Int)))) := Lib.hid (((HB1.out).setCell (p := ⟨w.heap.size + 1, 2, none⟩) (Nat.le_succ _) _).setCell (p := ⟨w.heap.size + 1, 1, none⟩) (Nat.le_succ _) _)
 obtain ⟨IL, hIL, hil, hone⟩ : ∃ L, itL ⟨2, n, (q : Int), 0, z256, op0, 0⟩ (.slice none 0 0) = L ∧ L.length = 268 ∧ L.toArray.all (·.oneCell') = true := ⟨_, rfl, itL_len z256_len, by rw [← Array.all_toList]; exact List.all_eq_true.2 (itL_one rfl)⟩
 have HIL := Lib.hid hIL
 have HRC : Hid (((W1.setCell ⟨w.heap.size + 1, 2, none⟩ (.int .i64 (q : Int))).setCell ⟨w.heap.size + 1, 1, none⟩ (.int .u64 (n : Int))).rangeAt (w.heap.size + 1) 0 IL) := Lib.hid (fun j u hj => by
  rw [Nat.zero_add]
  rw [← HIL.out] at hj
  exact cellIs HF.out (by simpa using hj))
 have HTH : Hid (((W1.setCell ⟨w.heap.size + 1, 2, none⟩ (.int .i64 (q : Int))).setCell ⟨w.heap.size + 1, 1, none⟩ (.int .u64 (n : Int))).there w.heap.size 0 268) := Lib.hid (there_of HZF.out zeroI268)
 have HTH2 : Hid (((W1.setCell ⟨w.heap.size + 1, 2, none⟩ (.int .i64 (q : Int))).setCell ⟨w.heap.size + 1, 1, none⟩ (.int .u64 (n : Int))).there w.heap.size 0 IL.toArray.size) := Lib.hid (there_mid HZF.out zeroI268 (by rw [List.size_toArray, hil]; omega))
 have HII : Hid ((Tryz.prog.info? 78).map (·.size) = some IL.length) := Lib.hid (by rw [hil]; exact infoIt)
 have HIJ : Hid ((Tryz.prog.info? 78).map (·.size) = some IL.toArray.size) := Lib.hid (by rw [List.size_toArray, hil]; exact infoIt)
 have HON := Lib.hid (And.intro hil hone)
 have HFIN : Hid (Below w.heap.size w (((W1.setCell ⟨w.heap.size + 1, 2, none⟩ (.int .i64 (q : Int))).setCell ⟨w.heap.size + 1, 1, none⟩ (.int .u64 (n : Int))).setCells w.heap.size 0 IL)) := Lib.hid (belowSetC (Nat.le_refl _) _ _ _ HBF.out)
 have HOW : Hid ((((W1.setCell ⟨w.heap.size + 1, 2, none⟩ (.int .i64 (q : Int))).setCell ⟨w.heap.size + 1, 1, none⟩ (.int .u64 (n : Int))).setCells w.heap.size 0 IL).ownsRow w.heap.size 5 1 (.slice none 0 0) 0 []) := Lib.hid (World.ownsRow_nil _ _ _ _)
 clear hIL hil hone
 go_upto_region 14 with (first
  | (go_at_call 37; refine (number_any _ _).mono ?_; rintro e wx ⟨rfl, rfl⟩))
 clear hk0 hfz hne hne2 x1 x2 ht1 ht2
 go_wp2_with (first
  | (refine wpList_load_mid rfl 78 _ rfl (w.heap.size + 1) 0 rfl IL _ HRC.out Tryz.underlying78 rfl HII.out ?_)
  | (refine wpList_store_mid rfl 78 _ _ rfl w.heap.size 0 IL.toArray rfl rfl HTH2.out HIJ.out HON.out.2 ?_))
 exact bodyPost_ret (v := .agg IL.toArray) (resI rfl _ _ _ rfl HON.out.1 HTH.out) rfl ⟨HFIN.out, _, by rw [HIL.out], HOW.out⟩
set_option maxRecDepth 100000 in
set_option maxHeartbeats 6400000 in
theorem itemOf_less (n q : Nat) (hq : q < 4294967296) (v : Value) (w : World) (B : Nat) (hown : w.ownsRow B 20 1 v 3 [.iface 41 (.int .u64 3), .iface 41 (.int .u64 (n : Int)), .iface 41 (.int .u64 (q : Int))]) :
  Calls Tryz.prog 61 #[v] w (ItOfP w ⟨3, n, 0, (q : Int), z256, op0, 0⟩) := by
 obtain ⟨g, cap, rfl, hgl, _, hnc, hcm, hcell⟩ := own_cells hown (by omega)
 have HC := Lib.hid (fun (X : World) (hX : Below w.heap.size w X) (j : Nat) (x : Value) hj => (hX.cell (p := ⟨g, j, none⟩) hgl).trans (hcell j x hj))
 have x0 := HC.out (w.alloc (.cells Tryz.zeroCells78 78)) (balloc (Below.refl _ _) _) 0 _ rfl
 have hst := newI_store (w.alloc (.cells Tryz.zeroCells78 78)) 3
 rw [World.size_alloc] at hst
 have hwq : IntKind.i64.wrap 3 = 3 := IntWalk.i64_in _ (by omega)
 obtain ⟨W1, hW1⟩ : ∃ W, (w.alloc (.cells Tryz.zeroCells78 78)).alloc (.cells (itZ 3).toArray 78) = W := ⟨_, rfl⟩
 have HB1 : Hid (Below w.heap.size w W1) := Lib.hid (by rw [← hW1]; exact balloc (balloc (Below.refl _ _) _) _)
 have HI1 : Hid (BI W1 (w.heap.size + 1) ⟨3, 0, 0, 0, z256, op0, 0⟩ (.slice none 0 0)) := Lib.hid (by
  rw [← hW1]
  have h := heap_alloc_new (w.alloc (.cells Tryz.zeroCells78 78)) (.cells (itZ 3).toArray 78)
  rw [World.size_alloc] at h
  exact h)
 have HZ1 : Hid (W1.heap[w.heap.size]? = some (.cells Tryz.zeroCells78 78 (0, 0))) := Lib.hid (by
  rw [← hW1]
  exact (Below.heap_alloc _ _ _ (by simp)).trans (heap_alloc_new w _))
 have hk0 : W1.cell? ⟨w.heap.size + 1, 0, none⟩ = some (.int .i64 3) := cellIs HI1.out rfl
 have hfz : ∀ i, W1.frozen? ⟨w.heap.size + 1, i, none⟩ = false := fun i => frozenOf HI1.out i
 have hne : (w.heap.size + 1 = g) = False := eq_false (by omega)
 have hne2 : (g = w.heap.size + 1) = False := eq_false (by omega)
 have HS1 : Hid (W1.heap.size = w.heap.size + 2) := Lib.hid (by rw [← hW1]; simp)
 have HGL := Lib.hid hgl
 clear hcell hown hgl
 go_enter Tryz.func61, Tryz.ntmps61
 go_upto_region 2 with (go_at_call 37; refine (number_any _ _).mono ?_; rintro e wx ⟨rfl, rfl⟩)
 clear hst x0 hW1 hwq
 have x1 := HC.out W1 HB1.out 1 _ rfl
 have x2 := HC.out W1 HB1.out 2 _ rfl
 have hwr : IntKind.i64.wrap (q : Int) = (q : Int) := IntWalk.i64_in _ (by omega)
 obtain ⟨t1, ht1⟩ := HI1.out.cellT z256_len (o := 1) (by omega)
 obtain ⟨t3, ht3⟩ := HI1.out.cellT z256_len (o := 3) (by omega)
 have HF : Hid (BI ((W1.setCell ⟨w.heap.size + 1, 3, none⟩ (.int .i64 (q : Int))).setCell ⟨w.heap.size + 1, 1, none⟩ (.int .u64 (n : Int))) (w.heap.size + 1) ⟨3, n, 0, (q : Int), z256, op0, 0⟩ (.slice none 0 0)) := Lib.hid ((HI1.out.blk (q : Int)).vol n)
 have HZF : Hid (((W1.setCell ⟨w.heap.size + 1, 3, none⟩ (.int .i64 (q : Int))).setCell ⟨w.heap.size + 1, 1, none⟩ (.int .u64 (n : Int))).heap[w.heap.size]? = some (.cells Tryz.zeroCells78 78 (0, 0))) := Lib.hid ((Below.heap_setCell _ ⟨w.heap.size + 1, 1, none⟩ _ _ (by simp)).trans ((Below.heap_setCell _ ⟨w.heap.size + 1, 3, none⟩ _ _ (by simp)).trans (HZ1.out)))
 have HBF : Hid (Below w.heap.size w ((W1.setCell ⟨w.heap.size + 1, 3, none⟩ (.int .i64 (q : Int))).setCell ⟨w.heap.size + 1, 1, none⟩ (.int .u64 (n : Int)))) := Lib.hid (((HB1.out).setCell (p := ⟨w.heap.size + 1, 3, none⟩) (Nat.le_succ _) _).setCell (p := ⟨w.heap.size + 1, 1, none⟩) (Nat.le_succ _) _)
 obtain ⟨IL, hIL, hil, hone⟩ : ∃ L, itL ⟨3, n, 0, (q : Int), z256, op0, 0⟩ (.slice none 0 0) = L ∧ L.length = 268 ∧ L.toArray.all (·.oneCell') = true := ⟨_, rfl, itL_len z256_len, by rw [← Array.all_toList]; exact List.all_eq_true.2 (itL_one rfl)⟩
 have HIL := Lib.hid hIL
 have HRC : Hid (((W1.setCell ⟨w.heap.size + 1, 3, none⟩ (.int .i64 (q : Int))).setCell ⟨w.heap.size + 1, 1, none⟩ (.int .u64 (n : Int))).rangeAt (w.heap.size + 1) 0 IL) := Lib.hid (fun j u hj => by
  rw [Nat.zero_add]
  rw [← HIL.out] at hj
  exact cellIs HF.out (by simpa using hj))
 have HTH : Hid (((W1.setCell ⟨w.heap.size + 1, 3, none⟩ (.int .i64 (q : Int))).setCell ⟨w.heap.size + 1, 1, none⟩ (.int .u64 (n : Int))).there w.heap.size 0 268) := Lib.hid (there_of HZF.out zeroI268)
 have HTH2 : Hid (((W1.setCell ⟨w.heap.size + 1, 3, none⟩ (.int .i64 (q : Int))).setCell ⟨w.heap.size + 1, 1, none⟩ (.int .u64 (n : Int))).there w.heap.size 0 IL.toArray.size) := Lib.hid (there_mid HZF.out zeroI268 (by rw [List.size_toArray, hil]; omega))
 have HII : Hid ((Tryz.prog.info? 78).map (·.size) = some IL.length) := Lib.hid (by rw [hil]; exact infoIt)
 have HIJ : Hid ((Tryz.prog.info? 78).map (·.size) = some IL.toArray.size) := Lib.hid (by rw [List.size_toArray, hil]; exact infoIt)
 have HON := Lib.hid (And.intro hil hone)
 have HFIN : Hid (Below w.heap.size w (((W1.setCell ⟨w.heap.size + 1, 3, none⟩ (.int .i64 (q : Int))).setCell ⟨w.heap.size + 1, 1, none⟩ (.int .u64 (n : Int))).setCells w.heap.size 0 IL)) := Lib.hid (belowSetC (Nat.le_refl _) _ _ _ HBF.out)
 have HOW : Hid ((((W1.setCell ⟨w.heap.size + 1, 3, none⟩ (.int .i64 (q : Int))).setCell ⟨w.heap.size + 1, 1, none⟩ (.int .u64 (n : Int))).setCells w.heap.size 0 IL).ownsRow w.heap.size 5 1 (.slice none 0 0) 0 []) := Lib.hid (World.ownsRow_nil _ _ _ _)
 clear hIL hil hone
 go_upto_region 14 with (first
  | (go_at_call 37; refine (number_any _ _).mono ?_; rintro e wx ⟨rfl, rfl⟩))
 clear hk0 hfz hne hne2 x1 x2 ht1 ht3
 go_wp2_with (first
  | (refine wpList_load_mid rfl 78 _ rfl (w.heap.size + 1) 0 rfl IL _ HRC.out Tryz.underlying78 rfl HII.out ?_)
  | (refine wpList_store_mid rfl 78 _ _ rfl w.heap.size 0 IL.toArray rfl rfl HTH2.out HIJ.out HON.out.2 ?_))
 exact bodyPost_ret (v := .agg IL.toArray) (resI rfl _ _ _ rfl HON.out.1 HTH.out) rfl ⟨HFIN.out, _, by rw [HIL.out], HOW.out⟩
set_option maxRecDepth 100000 in
set_option maxHeartbeats 6400000 in
theorem itemOf_data (n q : Nat) (hq : q < 4294967296) (d : List UInt8) (hd : d.length = 256) (v : Value) (w : World) (B : Nat) (hown : w.ownsRow B 20 1 v 4 [.iface 41 (.int .u64 4), .iface 41 (.int .u64 (n : Int)), .iface 41 (.int .u64 (q : Int)), .iface 76 (bA d)]) :
  Calls Tryz.prog 61 #[v] w (ItOfP w ⟨4, n, 0, (q : Int), d, op0, 0⟩) := by
 obtain ⟨g, cap, rfl, hgl, _, hnc, hcm, hcell⟩ := own_cells hown (by omega)
 have HC := Lib.hid (fun (X : World) (hX : Below w.heap.size w X) (j : Nat) (x : Value) hj => (hX.cell (p := ⟨g, j, none⟩) hgl).trans (hcell j x hj))
 have x0 := HC.out (w.alloc (.cells Tryz.zeroCells78 78)) (balloc (Below.refl _ _) _) 0 _ rfl
 have hst := newI_store (w.alloc (.cells Tryz.zeroCells78 78)) 4
 rw [World.size_alloc] at hst
 have hwq : IntKind.i64.wrap 4 = 4 := IntWalk.i64_in _ (by omega)
 obtain ⟨W1, hW1⟩ : ∃ W, (w.alloc (.cells Tryz.zeroCells78 78)).alloc (.cells (itZ 4).toArray 78) = W := ⟨_, rfl⟩
 have HB1 : Hid (Below w.heap.size w W1) := Lib.hid (by rw [← hW1]; exact balloc (balloc (Below.refl _ _) _) _)
 have HI1 : Hid (BI W1 (w.heap.size + 1) ⟨4, 0, 0, 0, z256, op0, 0⟩ (.slice none 0 0)) := Lib.hid (by
  rw [← hW1]
  have h := heap_alloc_new (w.alloc (.cells Tryz.zeroCells78 78)) (.cells (itZ 4).toArray 78)
  rw [World.size_alloc] at h
  exact h)
 have HZ1 : Hid (W1.heap[w.heap.size]? = some (.cells Tryz.zeroCells78 78 (0, 0))) := Lib.hid (by
  rw [← hW1]
  exact (Below.heap_alloc _ _ _ (by simp)).trans (heap_alloc_new w _))
 have hk0 : W1.cell? ⟨w.heap.size + 1, 0, none⟩ = some (.int .i64 4) := cellIs HI1.out rfl
 have hfz : ∀ i, W1.frozen? ⟨w.heap.size + 1, i, none⟩ = false := fun i => frozenOf HI1.out i
 have hne : (w.heap.size + 1 = g) = False := eq_false (by omega)
 have hne2 : (g = w.heap.size + 1) = False := eq_false (by omega)
 have HS1 : Hid (W1.heap.size = w.heap.size + 2) := Lib.hid (by rw [← hW1]; simp)
 have HGL := Lib.hid hgl
 clear hcell hown hgl
 go_enter Tryz.func61, Tryz.ntmps61
 go_upto_region 2 with (go_at_call 37; refine (number_any _ _).mono ?_; rintro e wx ⟨rfl, rfl⟩)
 clear hst x0 hW1 hwq
 have HB2 : Hid (Below w.heap.size w (W1.setCells (w.heap.size + 1) 4 (bV d))) := Lib.hid (belowSetC (Nat.le_succ _) _ _ _ HB1.out)
 have HI2 : Hid (BI (W1.setCells (w.heap.size + 1) 4 (bV d)) (w.heap.size + 1) ⟨4, 0, 0, 0, d, op0, 0⟩ (.slice none 0 0)) := Lib.hid (HI1.out.data d (by rw [hd]; exact z256_len))
 have x1 := HC.out _ HB2.out 1 _ rfl
 have x2 := HC.out _ HB2.out 2 _ rfl
 have x3 := HC.out W1 HB1.out 3 _ rfl
 have hwr : IntKind.i64.wrap (q : Int) = (q : Int) := IntWalk.i64_in _ (by omega)
 have hasB := fun (W : World) => run_assert_one (P := Tryz.prog) (xT := 20) Tryz.underlying76 rfl (bA d) W
 obtain ⟨t1, ht1⟩ := HI2.out.cellT hd (o := 1) (by omega)
 obtain ⟨t3, ht3⟩ := HI2.out.cellT hd (o := 3) (by omega)
 have hfz2 : ∀ i, (W1.setCells (w.heap.size + 1) 4 (bV d)).frozen? ⟨w.heap.size + 1, i, none⟩ = false := fun i => frozenOf HI2.out i
 have HT4 : Hid (W1.there (w.heap.size + 1) 4 (bV d).toArray.size) := Lib.hid (HI1.out.there z256_len (by rw [List.size_toArray, bV_len, hd]; omega))
 have HD4 : Hid ((Tryz.prog.info? 76).map (·.size) = some (bV d).toArray.size) := Lib.hid (by rw [List.size_toArray, bV_len, hd]; exact infoBk)
 have HO4 : Hid ((bV d).toArray.all (·.oneCell') = true) := Lib.hid (by rw [← Array.all_toList]; exact List.all_eq_true.2 (bV_one d))
 unfold bA at hasB x3
 have HF : Hid (BI (((W1.setCells (w.heap.size + 1) 4 (bV d)).setCell ⟨w.heap.size + 1, 3, none⟩ (.int .i64 (q : Int))).setCell ⟨w.heap.size + 1, 1, none⟩ (.int .u64 (n : Int))) (w.heap.size + 1) ⟨4, n, 0, (q : Int), d, op0, 0⟩ (.slice none 0 0)) := Lib.hid ((HI2.out.blk (q : Int)).vol n)
 have HZF : Hid ((((W1.setCells (w.heap.size + 1) 4 (bV d)).setCell ⟨w.heap.size + 1, 3, none⟩ (.int .i64 (q : Int))).setCell ⟨w.heap.size + 1, 1, none⟩ (.int .u64 (n : Int))).heap[w.heap.size]? = some (.cells Tryz.zeroCells78 78 (0, 0))) := Lib.hid ((Below.heap_setCell _ ⟨w.heap.size + 1, 1, none⟩ _ _ (by simp)).trans ((Below.heap_setCell _ ⟨w.heap.size + 1, 3, none⟩ _ _ (by simp)).trans ((heapSetC _ _ _ _ _ (by omega)).trans (HZ1.out))))
 have HBF : Hid (Below w.heap.size w (((W1.setCells (w.heap.size + 1) 4 (bV d)).setCell ⟨w.heap.size + 1, 3, none⟩ (.int .i64 (q : Int))).setCell ⟨w.heap.size + 1, 1, none⟩ (.int .u64 (n : Int)))) := Lib.hid (((belowSetC (Nat.le_succ _) _ _ _ (HB1.out)).setCell (p := ⟨w.heap.size + 1, 3, none⟩) (Nat.le_succ _) _).setCell (p := ⟨w.heap.size + 1, 1, none⟩) (Nat.le_succ _) _)
 obtain ⟨IL, hIL, hil, hone⟩ : ∃ L, itL ⟨4, n, 0, (q : Int), d, op0, 0⟩ (.slice none 0 0) = L ∧ L.length = 268 ∧ L.toArray.all (·.oneCell') = true := ⟨_, rfl, itL_len hd, by rw [← Array.all_toList]; exact List.all_eq_true.2 (itL_one rfl)⟩
 have HIL := Lib.hid hIL
 have HRC : Hid ((((W1.setCells (w.heap.size + 1) 4 (bV d)).setCell ⟨w.heap.size + 1, 3, none⟩ (.int .i64 (q : Int))).setCell ⟨w.heap.size + 1, 1, none⟩ (.int .u64 (n : Int))).rangeAt (w.heap.size + 1) 0 IL) := Lib.hid (fun j u hj => by
  rw [Nat.zero_add]
  rw [← HIL.out] at hj
  exact cellIs HF.out (by simpa using hj))
 have HTH : Hid ((((W1.setCells (w.heap.size + 1) 4 (bV d)).setCell ⟨w.heap.size + 1, 3, none⟩ (.int .i64 (q : Int))).setCell ⟨w.heap.size + 1, 1, none⟩ (.int .u64 (n : Int))).there w.heap.size 0 268) := Lib.hid (there_of HZF.out zeroI268)
 have HTH2 : Hid ((((W1.setCells (w.heap.size + 1) 4 (bV d)).setCell ⟨w.heap.size + 1, 3, none⟩ (.int .i64 (q : Int))).setCell ⟨w.heap.size + 1, 1, none⟩ (.int .u64 (n : Int))).there w.heap.size 0 IL.toArray.size) := Lib.hid (there_mid HZF.out zeroI268 (by rw [List.size_toArray, hil]; omega))
 have HII : Hid ((Tryz.prog.info? 78).map (·.size) = some IL.length) := Lib.hid (by rw [hil]; exact infoIt)
 have HIJ : Hid ((Tryz.prog.info? 78).map (·.size) = some IL.toArray.size) := Lib.hid (by rw [List.size_toArray, hil]; exact infoIt)
 have HON := Lib.hid (And.intro hil hone)
 have HFIN : Hid (Below w.heap.size w ((((W1.setCells (w.heap.size + 1) 4 (bV d)).setCell ⟨w.heap.size + 1, 3, none⟩ (.int .i64 (q : Int))).setCell ⟨w.heap.size + 1, 1, none⟩ (.int .u64 (n : Int))).setCells w.heap.size 0 IL)) := Lib.hid (belowSetC (Nat.le_refl _) _ _ _ HBF.out)
 have HOW : Hid (((((W1.setCells (w.heap.size + 1) 4 (bV d)).setCell ⟨w.heap.size + 1, 3, none⟩ (.int .i64 (q : Int))).setCell ⟨w.heap.size + 1, 1, none⟩ (.int .u64 (n : Int))).setCells w.heap.size 0 IL).ownsRow w.heap.size 5 1 (.slice none 0 0) 0 []) := Lib.hid (World.ownsRow_nil _ _ _ _)
 clear hIL hil hone
 go_upto_region 14 with (first
  | (go_at_call 37; refine (number_any _ _).mono ?_; rintro e wx ⟨rfl, rfl⟩)
  | (refine wpList_store_mid rfl 76 _ _ rfl (w.heap.size + 1) 4 (bV d).toArray rfl rfl HT4.out HD4.out HO4.out ?_))
 clear hk0 hfz hne hne2 x1 x2 x3 ht1 ht3 hfz2
 go_wp2_with (first
  | (refine wpList_load_mid rfl 78 _ rfl (w.heap.size + 1) 0 rfl IL _ HRC.out Tryz.underlying78 rfl HII.out ?_)
  | (refine wpList_store_mid rfl 78 _ _ rfl w.heap.size 0 IL.toArray rfl rfl HTH2.out HIJ.out HON.out.2 ?_))
 exact bodyPost_ret (v := .agg IL.toArray) (resI rfl _ _ _ rfl HON.out.1 HTH.out) rfl ⟨HFIN.out, _, by rw [HIL.out], HOW.out⟩
set_option maxRecDepth 100000 in
set_option maxHeartbeats 6400000 in
theorem itemOf_op (q : Nat) (hq : q < 4294967296) (x : List UInt8) (hxl : x.length ≤ 1000000) (sl : Value) (B2 : Nat) (v : Value) (w : World) (hsl : w.ownsRow B2 5 1 sl x.length (bV x)) (B : Nat) (hown : w.ownsRow B 20 1 v 3 [.iface 41 (.int .u64 5), .iface 34 sl, .iface 41 (.int .u64 (q : Int))]) :
  Calls Tryz.prog 61 #[v] w (ItOfP w ⟨5, 0, 0, 0, z256, oO (ofO x), (q : Int)⟩) := by
 obtain ⟨g, cap, rfl, hgl, _, hnc, hcm, hcell⟩ := own_cells hown (by omega)
 have HC := Lib.hid (fun (X : World) (hX : Below w.heap.size w X) (j : Nat) (x : Value) hj => (hX.cell (p := ⟨g, j, none⟩) hgl).trans (hcell j x hj))
 have x0 := HC.out (w.alloc (.cells Tryz.zeroCells78 78)) (balloc (Below.refl _ _) _) 0 _ rfl
 have hst := newI_store (w.alloc (.cells Tryz.zeroCells78 78)) 5
 rw [World.size_alloc] at hst
 have hwq : IntKind.i64.wrap 5 = 5 := IntWalk.i64_in _ (by omega)
 obtain ⟨W1, hW1⟩ : ∃ W, (w.alloc (.cells Tryz.zeroCells78 78)).alloc (.cells (itZ 5).toArray 78) = W := ⟨_, rfl⟩
 have HB1 : Hid (Below w.heap.size w W1) := Lib.hid (by rw [← hW1]; exact balloc (balloc (Below.refl _ _) _) _)
 have HI1 : Hid (BI W1 (w.heap.size + 1) ⟨5, 0, 0, 0, z256, op0, 0⟩ (.slice none 0 0)) := Lib.hid (by
  rw [← hW1]
  have h := heap_alloc_new (w.alloc (.cells Tryz.zeroCells78 78)) (.cells (itZ 5).toArray 78)
  rw [World.size_alloc] at h
  exact h)
 have HZ1 : Hid (W1.heap[w.heap.size]? = some (.cells Tryz.zeroCells78 78 (0, 0))) := Lib.hid (by
  rw [← hW1]
  exact (Below.heap_alloc _ _ _ (by simp)).trans (heap_alloc_new w _))
 have hk0 : W1.cell? ⟨w.heap.size + 1, 0, none⟩ = some (.int .i64 5) := cellIs HI1.out rfl
 have hfz : ∀ i, W1.frozen? ⟨w.heap.size + 1, i, none⟩ = false := fun i => frozenOf HI1.out i
 have hne : (w.heap.size + 1 = g) = False := eq_false (by omega)
 have hne2 : (g = w.heap.size + 1) = False := eq_false (by omega)
 have HS1 : Hid (W1.heap.size = w.heap.size + 2) := Lib.hid (by rw [← hW1]; simp)
 have HGL := Lib.hid hgl
 clear hcell hown hgl
 go_enter Tryz.func61, Tryz.ntmps61
 go_upto_region 2 with (go_at_call 37; refine (number_any _ _).mono ?_; rintro e wx ⟨rfl, rfl⟩)
 clear hst x0 hW1 hwq
 obtain ⟨aox, capx, rfl, hrx⟩ : ∃ ao cap, sl = .slice ao x.length cap ∧ True := by obtain ⟨ao, cap, h, _⟩ := Rd.of_own hsl; exact ⟨ao, cap, h, trivial⟩
 have CO := Lib.hid (ofO_own x (.slice aox x.length capx) W1 ((Rd.of_own hsl).below HB1.out) hxl)
 have x1 := HC.out W1 HB1.out 1 _ rfl
 have hwr : IntKind.i64.wrap (q : Int) = (q : Int) := IntWalk.i64_in _ (by omega)
 clear hsl hxl hrx
 go_wp2_with (go_at_call 60; refine (bytesV_any _ _ _ _).mono ?_; rintro e wx ⟨rfl, rfl⟩)
 refine CO.out.mono ?_
 rintro e w2 ⟨hb2, sl', rfl, ho2⟩
 have hone : sl'.oneCell' = true := by obtain ⟨_, _, rfl, _⟩ := Rd.of_own ho2; rfl
 obtain ⟨Y, hY, hyl, hyo⟩ : ∃ Y : List Value, oC (oO (ofO x)) sl' = Y.toArray ∧ Y.length = 7 ∧ Y.toArray.all (·.oneCell') = true := ⟨opL (oO (ofO x)) sl', rfl, rfl, all_oneL (opL_one hone)⟩
 have hYL : opL (oO (ofO x)) sl' = Y := by
  have h : (opL (oO (ofO x)) sl').toArray = Y.toArray := hY
  simpa using congrArg Array.toList h
 rw [hY]
 have HB2 := Lib.hid (bthen HB1.out hb2)
 have HI2 := Lib.hid (HI1.out.mono hb2)
 have HZ2 : Hid (w2.heap[w.heap.size]? = some (.cells Tryz.zeroCells78 78 (0, 0))) := Lib.hid ((hb2.block _ (by have := HS1.out; omega)).trans HZ1.out)
 have HI3 : Hid (BI (w2.setCells (w.heap.size + 1) 260 Y) (w.heap.size + 1) ⟨5, 0, 0, 0, z256, oO (ofO x), 0⟩ sl') := Lib.hid (by
  rw [← hYL]
  exact HI2.out.op z256_len (oO (ofO x)) sl')
 have HB3 : Hid (Below w.heap.size w (w2.setCells (w.heap.size + 1) 260 Y)) := Lib.hid (belowSetC (Nat.le_succ _) _ _ _ HB2.out)
 have x2 := HC.out (w2.setCells (w.heap.size + 1) 260 Y) HB3.out 2 _ rfl
 have HT2 : Hid (w2.there (w.heap.size + 1) 260 Y.toArray.size) := Lib.hid (HI2.out.there z256_len (by rw [List.size_toArray, hyl]; omega))
 have HY2 : Hid ((Tryz.prog.info? 70).map (·.size) = some Y.toArray.size) := Lib.hid (by rw [List.size_toArray, hyl]; exact infoOp)
 have HYO := Lib.hid hyo
 have ho3 : (w2.setCells (w.heap.size + 1) 260 Y).ownsRow (w.heap.size + 2) 5 1 sl' (oO (ofO x)).data.length (bV (oO (ofO x)).data) := by
  have h := HS1.out
  rw [h] at ho2
  exact own_setCells ho2 (by omega)
 have HO3 := Lib.hid ho3
 have HON3 := Lib.hid hone
 obtain ⟨t267, ht267⟩ := HI3.out.cellT z256_len (o := 267) (by omega)
 have hfz3 : ∀ i, (w2.setCells (w.heap.size + 1) 260 Y).frozen? ⟨w.heap.size + 1, i, none⟩ = false := fun i => frozenOf HI3.out i
 clear hY hYL hyl hyo hb2 ho2 hone ho3 hk0 hfz x1 CO
 have HF : Hid (BI ((w2.setCells (w.heap.size + 1) 260 Y).setCell ⟨w.heap.size + 1, 267, none⟩ (.int .i64 (q : Int))) (w.heap.size + 1) ⟨5, 0, 0, 0, z256, oO (ofO x), (q : Int)⟩ sl') := Lib.hid (HI3.out.blocks z256_len (q : Int))
 have HZF : Hid (((w2.setCells (w.heap.size + 1) 260 Y).setCell ⟨w.heap.size + 1, 267, none⟩ (.int .i64 (q : Int))).heap[w.heap.size]? = some (.cells Tryz.zeroCells78 78 (0, 0))) := Lib.hid ((Below.heap_setCell _ ⟨w.heap.size + 1, 267, none⟩ _ _ (by simp)).trans ((heapSetC _ _ _ _ _ (by omega)).trans HZ2.out))
 have HBF : Hid (Below w.heap.size w ((w2.setCells (w.heap.size + 1) 260 Y).setCell ⟨w.heap.size + 1, 267, none⟩ (.int .i64 (q : Int)))) := Lib.hid (HB3.out.setCell (p := ⟨w.heap.size + 1, 267, none⟩) (Nat.le_succ _) _)
 obtain ⟨IL, hIL, hil, hone⟩ : ∃ L, itL ⟨5, 0, 0, 0, z256, oO (ofO x), (q : Int)⟩ sl' = L ∧ L.length = 268 ∧ L.toArray.all (·.oneCell') = true := ⟨_, rfl, itL_len z256_len, by rw [← Array.all_toList]; exact List.all_eq_true.2 (itL_one HON3.out)⟩
 have HIL := Lib.hid hIL
 have HRC : Hid (((w2.setCells (w.heap.size + 1) 260 Y).setCell ⟨w.heap.size + 1, 267, none⟩ (.int .i64 (q : Int))).rangeAt (w.heap.size + 1) 0 IL) := Lib.hid (fun j u hj => by
  rw [Nat.zero_add]
  rw [← HIL.out] at hj
  exact cellIs HF.out (by simpa using hj))
 have HTH : Hid (((w2.setCells (w.heap.size + 1) 260 Y).setCell ⟨w.heap.size + 1, 267, none⟩ (.int .i64 (q : Int))).there w.heap.size 0 268) := Lib.hid (there_of HZF.out zeroI268)
 have HTH2 : Hid (((w2.setCells (w.heap.size + 1) 260 Y).setCell ⟨w.heap.size + 1, 267, none⟩ (.int .i64 (q : Int))).there w.heap.size 0 IL.toArray.size) := Lib.hid (there_mid HZF.out zeroI268 (by rw [List.size_toArray, hil]; omega))
 have HII : Hid ((Tryz.prog.info? 78).map (·.size) = some IL.length) := Lib.hid (by rw [hil]; exact infoIt)
 have HIJ : Hid ((Tryz.prog.info? 78).map (·.size) = some IL.toArray.size) := Lib.hid (by rw [List.size_toArray, hil]; exact infoIt)
 have HON := Lib.hid (And.intro hil hone)
 have HFIN : Hid (Below w.heap.size w (((w2.setCells (w.heap.size + 1) 260 Y).setCell ⟨w.heap.size + 1, 267, none⟩ (.int .i64 (q : Int))).setCells w.heap.size 0 IL)) := Lib.hid (belowSetC (Nat.le_refl _) _ _ _ HBF.out)
 have HOW : Hid ((((w2.setCells (w.heap.size + 1) 260 Y).setCell ⟨w.heap.size + 1, 267, none⟩ (.int .i64 (q : Int))).setCells w.heap.size 0 IL).ownsRow w.heap.size 5 1 sl' (oO (ofO x)).data.length (bV (oO (ofO x)).data)) := Lib.hid (ownsRow_base (own_setCells (own_setCells (vs := [.int .i64 (q : Int)]) (o := 267) (b := w.heap.size + 1) HO3.out (by omega)) (by omega)) (by omega))
 clear hIL hil hone
 go_upto_region 9 with (first
  | (go_at_call 37; refine (number_any _ _).mono ?_; rintro e wx ⟨rfl, rfl⟩)
  | (refine wpList_store_mid rfl 70 _ _ rfl (w.heap.size + 1) 260 Y.toArray rfl rfl HT2.out HY2.out HYO.out ?_))
 clear hne hne2 x2 ht267 hfz3
 go_wp2_with (first
  | (refine wpList_load_mid rfl 78 _ rfl (w.heap.size + 1) 0 rfl IL _ HRC.out Tryz.underlying78 rfl HII.out ?_)
  | (refine wpList_store_mid rfl 78 _ _ rfl w.heap.size 0 IL.toArray rfl rfl HTH2.out HIJ.out HON.out.2 ?_))
 exact bodyPost_ret (v := .agg IL.toArray) (resI rfl _ _ _ rfl HON.out.1 HTH.out) rfl ⟨HFIN.out, _, by rw [HIL.out], HOW.out⟩
end Go.Proofs.YtgkelbdgdhkeoaaGreat
