/- The reference's put, walked. (Printed by mk37.py.) -/
import Derived.Test.YtgkelbdgdhkeoaaGreatPMsg33
import Derived.Test.YtgkelbdgdhkeoaaGreatPMsg36
namespace Go.Proofs.YtgkelbdgdhkeoaaGreat
open Go.RowKit
set_option linter.unusedVariables false
set_option linter.unusedSimpArgs false
open Wire Cmd
/-- What put answers. -/
def RPutP (w0 w : World) (b : Ms0) (y : Bool) (e : Ending) (w' : World) : Prop :=
 Below w.heap.size w w' ∧ ∃ t1 t2, e = .returned (.tuple #[.agg (msL b t1 t2).toArray, .bool y]) ∧ Rd w0 1 t1 b.op.data.length (bV b.op.data) ∧ Rd w0 1 t2 b.item.op.data.length (bV b.item.op.data)
theorem rdOne {w : World} {sl : Value} {n : Nat} {xs : List Value} (h : Rd w 1 sl n xs) : sl.oneCell' = true := by obtain ⟨_, _, rfl, _⟩ := h; rfl
/-- What stands ahead of put's return. -/
structure FinP (w0 w X : World) (b : Ms0) (t1 t2 : Value) : Prop where
 bx : BM X w.heap.size b t1 t2
 zb : X.heap[w.heap.size + 1]? = some (.cells Tryz.zeroCells80 80 (0, 0))
 below : Below w.heap.size w X
 o1 : Rd w0 1 t1 b.op.data.length (bV b.op.data)
 o2 : Rd w0 1 t2 b.item.op.data.length (bV b.item.op.data)
 hd : b.item.data.length = 256
theorem FinP.mono {w0 w X Y : World} {b : Ms0} {t1 t2 : Value} (h : FinP w0 w X b t1 t2) (hb : Below X.heap.size X Y) : FinP w0 w Y b t1 t2 :=
 ⟨h.bx.mono hb, (hb.block _ (Array.getElem?_eq_some_iff.1 h.zb).1).trans h.zb, bthen h.below hb, h.o1, h.o2, h.hd⟩
theorem FinP.put {w0 w X : World} {o : Nat} {b b' : Ms0} {t1 t2 t1' t2' : Value} {A C xs Y : List Value} (h : FinP w0 w X b t1 t2) (e1 : msL b t1 t2 = A ++ (xs ++ C)) (ho : A.length = o) (hl : xs.length = Y.length) (e2 : msL b' t1' t2' = A ++ (Y ++ C))
  (o1 : Rd w0 1 t1' b'.op.data.length (bV b'.op.data)) (o2 : Rd w0 1 t2' b'.item.op.data.length (bV b'.item.op.data)) (hd : b'.item.data.length = 256) : FinP w0 w (X.setCells w.heap.size o Y) b' t1' t2' :=
 ⟨h.bx.put e1 ho hl e2, (heapSetC _ _ _ _ _ (by omega)).trans h.zb, belowSetC (Nat.le_refl _) _ _ _ h.below, o1, o2, hd⟩
theorem FinP.new {w0 w : World} {b : Ms0} {t1 t2 : Value} (o1 : Rd w0 1 t1 b.op.data.length (bV b.op.data)) (o2 : Rd w0 1 t2 b.item.op.data.length (bV b.item.op.data)) (hd : b.item.data.length = 256) :
  FinP w0 w ((w.alloc (.cells (msL b t1 t2).toArray 80)).alloc (.cells Tryz.zeroCells80 80)) b t1 t2 :=
 ⟨(Below.heap_alloc _ _ _ (by simp)).trans (heap_alloc_new w _), heap_twoM w _ _, balloc (balloc (Below.refl _ _) _) _, o1, o2, hd⟩
theorem FinP.fin {w0 w X : World} {b : Ms0} {t1 t2 : Value} (h : FinP w0 w X b t1 t2) : ∃ L, msL b t1 t2 = L ∧ L.length = 290 ∧ L.toArray.all (·.oneCell') = true ∧ X.rangeAt w.heap.size 0 L ∧ X.there (w.heap.size + 1) 0 290 ∧ X.there (w.heap.size + 1) 0 L.toArray.size ∧
  (Tryz.prog.info? 80).map (·.size) = some L.length ∧ (Tryz.prog.info? 80).map (·.size) = some L.toArray.size ∧ ∀ y, RPutP w0 w b y (.returned (.tuple #[.agg L.toArray, .bool y])) (X.setCells (w.heap.size + 1) 0 L) := by
 obtain ⟨bx, zb, hb, o1, o2, hd⟩ := h
 have hl := msL_len (m := b) (s1 := t1) (s2 := t2) hd
 refine ⟨_, rfl, hl, all_oneL (msL_one (rdOne o1) (rdOne o2)), fun j u hj => ?_, there_of zb zeroM, there_mid zb zeroM (by rw [List.size_toArray, hl]; omega), by rw [hl]; exact infoMs, by rw [List.size_toArray, hl]; exact infoMs, fun y => ⟨belowSetC (Nat.le_succ _) _ _ _ hb, t1, t2, rfl, o1, o2⟩⟩
 rw [Nat.zero_add]
 exact cellIs bx (by simpa using hj)
theorem FinP.there {w0 w X : World} {b : Ms0} {t1 t2 : Value} (h : FinP w0 w X b t1 t2) {o n : Nat} (hn : o + n ≤ 290) : X.there w.heap.size o n := there_mid (N := 290) h.bx (by rw [List.size_toArray]; exact msL_len h.hd) hn
theorem FinP.cellT {w0 w X : World} {b : Ms0} {t1 t2 : Value} (h : FinP w0 w X b t1 t2) {o : Nat} (ho : o < 290) : ∃ u, X.cell? ⟨w.heap.size, o, none⟩ = some u := by
 have := (h.there (o := o) (n := 1) (by omega) 0 (by omega)).1
 exact Option.isSome_iff_exists.1 this
set_option maxRecDepth 100000 in
set_option maxHeartbeats 6400000 in
theorem rput_lead (b : Ms0) (x0 : V) (z0 : Value) (s1 s2 v : Value) (w0 w : World) (R : Nat) (h1 : Rd w0 1 s1 b.op.data.length (bV b.op.data)) (h2 : Rd w0 1 s2 b.item.op.data.length (bV b.item.op.data)) (hd : b.item.data.length = 256) (hr : RVrow w0 R w v [(x0, z0)]) :
  Calls Tryz.prog 54 #[.agg (msL b s1 s2).toArray, .int .u8 108, v] w (RPutP w0 w { b with lead := x0.yes } true) := by
 obtain ⟨g, cap, rfl, hgl, _, hnc, hcm, hget⟩ := rv_cells hr (by simp)
 simp only [List.length_cons, List.length_nil, Nat.zero_add, Nat.reduceAdd] at hnc ⊢
 have HGET := Lib.hid hget
 have HF0 := Lib.hid (FinP.new (w := w) h1 h2 hd)
 obtain ⟨AL, hAL⟩ : ∃ L, msL b s1 s2 = L := ⟨_, rfl⟩
 obtain ⟨W1, hW1⟩ : ∃ W, (w.alloc (.cells AL.toArray 80)).alloc (.cells Tryz.zeroCells80 80) = W := ⟨_, rfl⟩
 have HO := Lib.hid (And.intro h1 h2)
 have HD := Lib.hid hd
 rw [hAL, hW1] at HF0
 rw [hAL]
 have HGL := Lib.hid hgl
 clear hget hgl h1 h2 hd hAL hr
 have HX : Hid (FinP w0 w (W1.setCell ⟨w.heap.size, 8, none⟩ (.bool x0.yes)) { b with lead := x0.yes } s1 s2) := Lib.hid (HF0.out.put (b' := { b with lead := x0.yes }) (Y := [.bool x0.yes]) (msL_lead b s1 s2) rfl rfl (msL_lead { b with lead := x0.yes } s1 s2) HO.out.1 HO.out.2 HD.out)
 have c0 : W1.cell? ⟨g, 2, none⟩ = some _ := (HGET.out 0 _ _ rfl).2.2 W1 HF0.out.below 2 _ rfl
 obtain ⟨t0, ht0⟩ := HF0.out.cellT (o := 8) (by omega)
 have hfz : ∀ i, W1.frozen? ⟨w.heap.size, i, none⟩ = false := fun i => frozenOf HF0.out.bx i
 obtain ⟨IL, hIL, hil, hone, hrc, hth, hth2, hii, hij, hfin⟩ := HX.out.fin
 have HRC := Lib.hid hrc
 have HTH := Lib.hid hth
 have HTH2 := Lib.hid hth2
 have HII := Lib.hid hii
 have HIJ := Lib.hid hij
 have HON := Lib.hid (And.intro hil hone)
 have HFIN := Lib.hid hfin
 clear hIL hil hone hrc hth hth2 hii hij hfin
 go_enter Tryz.func54, Tryz.ntmps54
 go_upto_region 19 with fail
 clear ht0 hfz hW1 c0
 go_wp2_with (first
  | (refine wpList_load_mid rfl 80 _ rfl w.heap.size 0 rfl IL _ HRC.out Tryz.underlying80 rfl HII.out ?_)
  | (refine wpList_store_mid rfl 80 _ _ rfl (w.heap.size + 1) 0 IL.toArray rfl rfl HTH2.out HIJ.out HON.out.2 ?_))
 exact bodyPost_ret (v := .tuple #[.agg IL.toArray, .bool true]) (resMt rfl _ _ _ _ rfl rfl HON.out.1 HTH.out) rfl (HFIN.out _)
set_option maxRecDepth 100000 in
set_option maxHeartbeats 6400000 in
theorem rput_num (b : Ms0) (x0 : V) (z0 : Value) (s1 s2 v : Value) (w0 w : World) (R : Nat) (h1 : Rd w0 1 s1 b.op.data.length (bV b.op.data)) (h2 : Rd w0 1 s2 b.item.op.data.length (bV b.item.op.data)) (hd : b.item.data.length = 256) (hr : RVrow w0 R w v [(x0, z0)]) :
  Calls Tryz.prog 54 #[.agg (msL b s1 s2).toArray, .int .u8 110, v] w (RPutP w0 w { b with num := x0.n } true) := by
 obtain ⟨g, cap, rfl, hgl, _, hnc, hcm, hget⟩ := rv_cells hr (by simp)
 simp only [List.length_cons, List.length_nil, Nat.zero_add, Nat.reduceAdd] at hnc ⊢
 have HGET := Lib.hid hget
 have HF0 := Lib.hid (FinP.new (w := w) h1 h2 hd)
 obtain ⟨AL, hAL⟩ : ∃ L, msL b s1 s2 = L := ⟨_, rfl⟩
 obtain ⟨W1, hW1⟩ : ∃ W, (w.alloc (.cells AL.toArray 80)).alloc (.cells Tryz.zeroCells80 80) = W := ⟨_, rfl⟩
 have HO := Lib.hid (And.intro h1 h2)
 have HD := Lib.hid hd
 rw [hAL, hW1] at HF0
 rw [hAL]
 have HGL := Lib.hid hgl
 clear hget hgl h1 h2 hd hAL hr
 have HX : Hid (FinP w0 w (W1.setCell ⟨w.heap.size, 18, none⟩ (.int .u64 (x0.n : Int))) { b with num := x0.n } s1 s2) := Lib.hid (HF0.out.put (b' := { b with num := x0.n }) (Y := [.int .u64 (x0.n : Int)]) (msL_num b s1 s2) rfl rfl (msL_num { b with num := x0.n } s1 s2) HO.out.1 HO.out.2 HD.out)
 have c0 : W1.cell? ⟨g, 1, none⟩ = some _ := (HGET.out 0 _ _ rfl).2.2 W1 HF0.out.below 1 _ rfl
 obtain ⟨t0, ht0⟩ := HF0.out.cellT (o := 18) (by omega)
 have hfz : ∀ i, W1.frozen? ⟨w.heap.size, i, none⟩ = false := fun i => frozenOf HF0.out.bx i
 obtain ⟨IL, hIL, hil, hone, hrc, hth, hth2, hii, hij, hfin⟩ := HX.out.fin
 have HRC := Lib.hid hrc
 have HTH := Lib.hid hth
 have HTH2 := Lib.hid hth2
 have HII := Lib.hid hii
 have HIJ := Lib.hid hij
 have HON := Lib.hid (And.intro hil hone)
 have HFIN := Lib.hid hfin
 clear hIL hil hone hrc hth hth2 hii hij hfin
 go_enter Tryz.func54, Tryz.ntmps54
 go_upto_region 19 with fail
 clear ht0 hfz hW1 c0
 go_wp2_with (first
  | (refine wpList_load_mid rfl 80 _ rfl w.heap.size 0 rfl IL _ HRC.out Tryz.underlying80 rfl HII.out ?_)
  | (refine wpList_store_mid rfl 80 _ _ rfl (w.heap.size + 1) 0 IL.toArray rfl rfl HTH2.out HIJ.out HON.out.2 ?_))
 exact bodyPost_ret (v := .tuple #[.agg IL.toArray, .bool true]) (resMt rfl _ _ _ _ rfl rfl HON.out.1 HTH.out) rfl (HFIN.out _)
set_option maxRecDepth 100000 in
set_option maxHeartbeats 6400000 in
theorem rput_seq (b : Ms0) (x0 : V) (z0 : Value) (s1 s2 v : Value) (w0 w : World) (R : Nat) (h1 : Rd w0 1 s1 b.op.data.length (bV b.op.data)) (h2 : Rd w0 1 s2 b.item.op.data.length (bV b.item.op.data)) (hd : b.item.data.length = 256) (hr : RVrow w0 R w v [(x0, z0)]) :
  Calls Tryz.prog 54 #[.agg (msL b s1 s2).toArray, .int .u8 115, v] w (RPutP w0 w { b with seq := x0.n } true) := by
 obtain ⟨g, cap, rfl, hgl, _, hnc, hcm, hget⟩ := rv_cells hr (by simp)
 simp only [List.length_cons, List.length_nil, Nat.zero_add, Nat.reduceAdd] at hnc ⊢
 have HGET := Lib.hid hget
 have HF0 := Lib.hid (FinP.new (w := w) h1 h2 hd)
 obtain ⟨AL, hAL⟩ : ∃ L, msL b s1 s2 = L := ⟨_, rfl⟩
 obtain ⟨W1, hW1⟩ : ∃ W, (w.alloc (.cells AL.toArray 80)).alloc (.cells Tryz.zeroCells80 80) = W := ⟨_, rfl⟩
 have HO := Lib.hid (And.intro h1 h2)
 have HD := Lib.hid hd
 rw [hAL, hW1] at HF0
 rw [hAL]
 have HGL := Lib.hid hgl
 clear hget hgl h1 h2 hd hAL hr
 have HX : Hid (FinP w0 w (W1.setCell ⟨w.heap.size, 9, none⟩ (.int .u64 (x0.n : Int))) { b with seq := x0.n } s1 s2) := Lib.hid (HF0.out.put (b' := { b with seq := x0.n }) (Y := [.int .u64 (x0.n : Int)]) (msL_seq b s1 s2) rfl rfl (msL_seq { b with seq := x0.n } s1 s2) HO.out.1 HO.out.2 HD.out)
 have c0 : W1.cell? ⟨g, 1, none⟩ = some _ := (HGET.out 0 _ _ rfl).2.2 W1 HF0.out.below 1 _ rfl
 obtain ⟨t0, ht0⟩ := HF0.out.cellT (o := 9) (by omega)
 have hfz : ∀ i, W1.frozen? ⟨w.heap.size, i, none⟩ = false := fun i => frozenOf HF0.out.bx i
 obtain ⟨IL, hIL, hil, hone, hrc, hth, hth2, hii, hij, hfin⟩ := HX.out.fin
 have HRC := Lib.hid hrc
 have HTH := Lib.hid hth
 have HTH2 := Lib.hid hth2
 have HII := Lib.hid hii
 have HIJ := Lib.hid hij
 have HON := Lib.hid (And.intro hil hone)
 have HFIN := Lib.hid hfin
 clear hIL hil hone hrc hth hth2 hii hij hfin
 go_enter Tryz.func54, Tryz.ntmps54
 go_upto_region 19 with fail
 clear ht0 hfz hW1 c0
 go_wp2_with (first
  | (refine wpList_load_mid rfl 80 _ rfl w.heap.size 0 rfl IL _ HRC.out Tryz.underlying80 rfl HII.out ?_)
  | (refine wpList_store_mid rfl 80 _ _ rfl (w.heap.size + 1) 0 IL.toArray rfl rfl HTH2.out HIJ.out HON.out.2 ?_))
 exact bodyPost_ret (v := .tuple #[.agg IL.toArray, .bool true]) (resMt rfl _ _ _ _ rfl rfl HON.out.1 HTH.out) rfl (HFIN.out _)
set_option maxRecDepth 100000 in
set_option maxHeartbeats 6400000 in
theorem rput_fro (b : Ms0) (x0 : V) (z0 : Value) (hn : x0.n < 4294967296) (s1 s2 v : Value) (w0 w : World) (R : Nat) (h1 : Rd w0 1 s1 b.op.data.length (bV b.op.data)) (h2 : Rd w0 1 s2 b.item.op.data.length (bV b.item.op.data)) (hd : b.item.data.length = 256) (hr : RVrow w0 R w v [(x0, z0)]) :
  Calls Tryz.prog 54 #[.agg (msL b s1 s2).toArray, .int .u8 102, v] w (RPutP w0 w { b with fro := (x0.n : Int) } true) := by
 obtain ⟨g, cap, rfl, hgl, _, hnc, hcm, hget⟩ := rv_cells hr (by simp)
 simp only [List.length_cons, List.length_nil, Nat.zero_add, Nat.reduceAdd] at hnc ⊢
 have HGET := Lib.hid hget
 have HF0 := Lib.hid (FinP.new (w := w) h1 h2 hd)
 obtain ⟨AL, hAL⟩ : ∃ L, msL b s1 s2 = L := ⟨_, rfl⟩
 obtain ⟨W1, hW1⟩ : ∃ W, (w.alloc (.cells AL.toArray 80)).alloc (.cells Tryz.zeroCells80 80) = W := ⟨_, rfl⟩
 have HO := Lib.hid (And.intro h1 h2)
 have HD := Lib.hid hd
 rw [hAL, hW1] at HF0
 rw [hAL]
 have HGL := Lib.hid hgl
 clear hget hgl h1 h2 hd hAL hr
 have HX : Hid (FinP w0 w (W1.setCell ⟨w.heap.size, 19, none⟩ (.int .i64 (x0.n : Int))) { b with fro := (x0.n : Int) } s1 s2) := Lib.hid (HF0.out.put (b' := { b with fro := (x0.n : Int) }) (Y := [.int .i64 (x0.n : Int)]) (msL_fro b s1 s2) rfl rfl (msL_fro { b with fro := (x0.n : Int) } s1 s2) HO.out.1 HO.out.2 HD.out)
 have c0 : W1.cell? ⟨g, 1, none⟩ = some _ := (HGET.out 0 _ _ rfl).2.2 W1 HF0.out.below 1 _ rfl
 obtain ⟨t0, ht0⟩ := HF0.out.cellT (o := 19) (by omega)
 have hfz : ∀ i, W1.frozen? ⟨w.heap.size, i, none⟩ = false := fun i => frozenOf HF0.out.bx i
 have hwr : IntKind.i64.wrap (x0.n : Int) = (x0.n : Int) := IntWalk.i64_in _ (by omega)
 obtain ⟨IL, hIL, hil, hone, hrc, hth, hth2, hii, hij, hfin⟩ := HX.out.fin
 have HRC := Lib.hid hrc
 have HTH := Lib.hid hth
 have HTH2 := Lib.hid hth2
 have HII := Lib.hid hii
 have HIJ := Lib.hid hij
 have HON := Lib.hid (And.intro hil hone)
 have HFIN := Lib.hid hfin
 clear hIL hil hone hrc hth hth2 hii hij hfin
 go_enter Tryz.func54, Tryz.ntmps54
 go_upto_region 19 with fail
 clear ht0 hfz hW1 c0
 go_wp2_with (first
  | (refine wpList_load_mid rfl 80 _ rfl w.heap.size 0 rfl IL _ HRC.out Tryz.underlying80 rfl HII.out ?_)
  | (refine wpList_store_mid rfl 80 _ _ rfl (w.heap.size + 1) 0 IL.toArray rfl rfl HTH2.out HIJ.out HON.out.2 ?_))
 exact bodyPost_ret (v := .tuple #[.agg IL.toArray, .bool true]) (resMt rfl _ _ _ _ rfl rfl HON.out.1 HTH.out) rfl (HFIN.out _)
set_option maxRecDepth 100000 in
set_option maxHeartbeats 6400000 in
theorem rput_blocks (b : Ms0) (x0 : V) (z0 : Value) (hn : x0.n < 4294967296) (s1 s2 v : Value) (w0 w : World) (R : Nat) (h1 : Rd w0 1 s1 b.op.data.length (bV b.op.data)) (h2 : Rd w0 1 s2 b.item.op.data.length (bV b.item.op.data)) (hd : b.item.data.length = 256) (hr : RVrow w0 R w v [(x0, z0)]) :
  Calls Tryz.prog 54 #[.agg (msL b s1 s2).toArray, .int .u8 98, v] w (RPutP w0 w { b with blocks := (x0.n : Int) } true) := by
 obtain ⟨g, cap, rfl, hgl, _, hnc, hcm, hget⟩ := rv_cells hr (by simp)
 simp only [List.length_cons, List.length_nil, Nat.zero_add, Nat.reduceAdd] at hnc ⊢
 have HGET := Lib.hid hget
 have HF0 := Lib.hid (FinP.new (w := w) h1 h2 hd)
 obtain ⟨AL, hAL⟩ : ∃ L, msL b s1 s2 = L := ⟨_, rfl⟩
 obtain ⟨W1, hW1⟩ : ∃ W, (w.alloc (.cells AL.toArray 80)).alloc (.cells Tryz.zeroCells80 80) = W := ⟨_, rfl⟩
 have HO := Lib.hid (And.intro h1 h2)
 have HD := Lib.hid hd
 rw [hAL, hW1] at HF0
 rw [hAL]
 have HGL := Lib.hid hgl
 clear hget hgl h1 h2 hd hAL hr
 have HX : Hid (FinP w0 w (W1.setCell ⟨w.heap.size, 17, none⟩ (.int .i64 (x0.n : Int))) { b with blocks := (x0.n : Int) } s1 s2) := Lib.hid (HF0.out.put (b' := { b with blocks := (x0.n : Int) }) (Y := [.int .i64 (x0.n : Int)]) (msL_blocks b s1 s2) rfl rfl (msL_blocks { b with blocks := (x0.n : Int) } s1 s2) HO.out.1 HO.out.2 HD.out)
 have c0 : W1.cell? ⟨g, 1, none⟩ = some _ := (HGET.out 0 _ _ rfl).2.2 W1 HF0.out.below 1 _ rfl
 obtain ⟨t0, ht0⟩ := HF0.out.cellT (o := 17) (by omega)
 have hfz : ∀ i, W1.frozen? ⟨w.heap.size, i, none⟩ = false := fun i => frozenOf HF0.out.bx i
 have hwr : IntKind.i64.wrap (x0.n : Int) = (x0.n : Int) := IntWalk.i64_in _ (by omega)
 obtain ⟨IL, hIL, hil, hone, hrc, hth, hth2, hii, hij, hfin⟩ := HX.out.fin
 have HRC := Lib.hid hrc
 have HTH := Lib.hid hth
 have HTH2 := Lib.hid hth2
 have HII := Lib.hid hii
 have HIJ := Lib.hid hij
 have HON := Lib.hid (And.intro hil hone)
 have HFIN := Lib.hid hfin
 clear hIL hil hone hrc hth hth2 hii hij hfin
 go_enter Tryz.func54, Tryz.ntmps54
 go_upto_region 19 with fail
 clear ht0 hfz hW1 c0
 go_wp2_with (first
  | (refine wpList_load_mid rfl 80 _ rfl w.heap.size 0 rfl IL _ HRC.out Tryz.underlying80 rfl HII.out ?_)
  | (refine wpList_store_mid rfl 80 _ _ rfl (w.heap.size + 1) 0 IL.toArray rfl rfl HTH2.out HIJ.out HON.out.2 ?_))
 exact bodyPost_ret (v := .tuple #[.agg IL.toArray, .bool true]) (resMt rfl _ _ _ _ rfl rfl HON.out.1 HTH.out) rfl (HFIN.out _)
set_option maxRecDepth 100000 in
set_option maxHeartbeats 6400000 in
theorem rput_name (b : Ms0) (x0 x1 : V) (z0 z1 : Value) (s1 s2 v : Value) (w0 w : World) (R : Nat) (h1 : Rd w0 1 s1 b.op.data.length (bV b.op.data)) (h2 : Rd w0 1 s2 b.item.op.data.length (bV b.item.op.data)) (hd : b.item.data.length = 256) (hr : RVrow w0 R w v [(x0, z0), (x1, z1)]) :
  Calls Tryz.prog 54 #[.agg (msL b s1 s2).toArray, .int .u8 109, v] w (RPutP w0 w { b with ne := x0.n, ns := x1.n } true) := by
 obtain ⟨g, cap, rfl, hgl, _, hnc, hcm, hget⟩ := rv_cells hr (by simp)
 simp only [List.length_cons, List.length_nil, Nat.zero_add, Nat.reduceAdd] at hnc ⊢
 have HGET := Lib.hid hget
 have HF0 := Lib.hid (FinP.new (w := w) h1 h2 hd)
 obtain ⟨AL, hAL⟩ : ∃ L, msL b s1 s2 = L := ⟨_, rfl⟩
 obtain ⟨W1, hW1⟩ : ∃ W, (w.alloc (.cells AL.toArray 80)).alloc (.cells Tryz.zeroCells80 80) = W := ⟨_, rfl⟩
 have HO := Lib.hid (And.intro h1 h2)
 have HD := Lib.hid hd
 rw [hAL, hW1] at HF0
 rw [hAL]
 have HGL := Lib.hid hgl
 clear hget hgl h1 h2 hd hAL hr
 have HX : Hid (FinP w0 w (W1.drew.setCells w.heap.size 20 (([.int .u64 (x0.n : Int), .int .u64 (x1.n : Int)] : List Value))) { b with ne := x0.n, ns := x1.n } s1 s2) := Lib.hid ((HF0.out.mono (Below.refl _ _).drew).put (b' := { b with ne := x0.n, ns := x1.n }) (Y := ([.int .u64 (x0.n : Int), .int .u64 (x1.n : Int)] : List Value)) (msL_name b s1 s2) rfl rfl (msL_name { b with ne := x0.n, ns := x1.n } s1 s2) HO.out.1 HO.out.2 HD.out)
 have HCE : Hid (∀ X, Below w.heap.size w X → X.cell? ⟨g, 1, none⟩ = some (.int .u64 (x0.n : Int)) ∧ X.cell? ⟨g, 261, none⟩ = some (.int .u64 (x1.n : Int))) := Lib.hid (fun X hX => ⟨(HGET.out 0 _ _ rfl).2.2 X hX 1 _ rfl, (HGET.out 1 _ _ rfl).2.2 X hX 1 _ rfl⟩)
 have hth : W1.drew.there w.heap.size 20 (([.int .u64 (x0.n : Int), .int .u64 (x1.n : Int)] : List Value)).toArray.size := (HF0.out.mono (Below.refl _ _).drew).there (by show 20 + 2 ≤ 290; omega)
 have hin : (Tryz.prog.info? 73).map (·.size) = some (([.int .u64 (x0.n : Int), .int .u64 (x1.n : Int)] : List Value)).toArray.size := by show _ = some 2; exact infoNa
 have hal : (([.int .u64 (x0.n : Int), .int .u64 (x1.n : Int)] : List Value)).toArray.all (·.oneCell') = true := na_all x0.n x1.n
 obtain ⟨IL, hIL, hil, hone, hrc, hth, hth2, hii, hij, hfin⟩ := HX.out.fin
 have HRC := Lib.hid hrc
 have HTH := Lib.hid hth
 have HTH2 := Lib.hid hth2
 have HII := Lib.hid hii
 have HIJ := Lib.hid hij
 have HON := Lib.hid (And.intro hil hone)
 have HFIN := Lib.hid hfin
 clear hIL hil hone hrc hth hth2 hii hij hfin
 have HTT := Lib.hid (And.intro hth (And.intro hin hal))
 clear hth hin hal
 go_enter Tryz.func54, Tryz.ntmps54
 go_upto_region 14 with fail
 clear hW1
 have HS0 := HCE.out _ (HF0.out.mono (Below.refl _ _).drew).below
 refine wp_region_held_drew (S := fun X => X.cell? ⟨g, 1, none⟩ = some (.int .u64 (x0.n : Int)) ∧ X.cell? ⟨g, 261, none⟩ = some (.int .u64 (x1.n : Int))) (by kernel_rfl) HS0 (fun hHeld => ?_)
 clear HS0
 refine wpAnyH_take (i := 0) (v := ?_) rfl (by kernel_rfl) (by kernel_rfl) (by kernel_rfl) (fun _ _ _ h => h) (Or.inl ⟨by rfl, ?_⟩) (by assumption) ?_
 rotate_left
 ·(intro w hSw; (try dsimp only at hSw); simp only [List.getElem_toArray, List.getElem_cons_zero, List.getElem_cons_succ]; go_simp; first | done | with_reducible rfl)
 simp only [List.getElem_toArray, List.getElem_cons_zero, List.getElem_cons_succ, Act.put, List.setIfInBounds_toArray, List.set_cons_zero, List.set_cons_succ]
 refine wpAnyH_take (i := 1) (v := ?_) rfl (by kernel_rfl) (by kernel_rfl) (by kernel_rfl) (fun _ _ _ h => h) (Or.inl ⟨by rfl, ?_⟩) (by assumption) ?_
 rotate_left
 ·(intro w hSw; (try dsimp only at hSw); simp only [List.getElem_toArray, List.getElem_cons_zero, List.getElem_cons_succ]; go_simp; first | done | with_reducible rfl)
 simp only [List.getElem_toArray, List.getElem_cons_zero, List.getElem_cons_succ, Act.put, List.setIfInBounds_toArray, List.set_cons_zero, List.set_cons_succ]
 refine wpAnyH_take (i := 2) (v := ?_) rfl (by kernel_rfl) (by kernel_rfl) (by kernel_rfl) (fun _ _ _ h => h) (Or.inl ⟨by rfl, ?_⟩) (by assumption) ?_
 rotate_left
 ·(intro w hSw; (try dsimp only at hSw); simp only [List.getElem_toArray, List.getElem_cons_zero, List.getElem_cons_succ]; go_simp; first | done | with_reducible rfl)
 simp only [List.getElem_toArray, List.getElem_cons_zero, List.getElem_cons_succ, Act.put, List.setIfInBounds_toArray, List.set_cons_zero, List.set_cons_succ]
 refine wpAnyH_take (i := 3) (v := ?_) rfl (by kernel_rfl) (by kernel_rfl) (by kernel_rfl) (fun _ _ _ h => h) (Or.inl ⟨by rfl, ?_⟩) (by assumption) ?_
 rotate_left
 ·(intro w hSw; (try dsimp only at hSw); simp only [List.getElem_toArray, List.getElem_cons_zero, List.getElem_cons_succ]; go_simp; first | done | with_reducible rfl)
 simp only [List.getElem_toArray, List.getElem_cons_zero, List.getElem_cons_succ, Act.put, List.setIfInBounds_toArray, List.set_cons_zero, List.set_cons_succ]
 refine wpAnyH_take (i := 4) (v := ?_) rfl (by kernel_rfl) (by kernel_rfl) (by kernel_rfl) (fun _ _ _ h => h) (Or.inl ⟨by rfl, ?_⟩) (by assumption) ?_
 rotate_left
 ·(intro w hSw; (try dsimp only at hSw); simp only [List.getElem_toArray, List.getElem_cons_zero, List.getElem_cons_succ]; go_simp; first | done | with_reducible rfl)
 simp only [List.getElem_toArray, List.getElem_cons_zero, List.getElem_cons_succ, Act.put, List.setIfInBounds_toArray, List.set_cons_zero, List.set_cons_succ]
 refine wpAnyH_take (i := 5) (v := ?_) rfl (by kernel_rfl) (by kernel_rfl) (by kernel_rfl) (fun _ _ _ h => h) (Or.inl ⟨by rfl, ?_⟩) (by assumption) ?_
 rotate_left
 ·(intro w hSw; (try dsimp only at hSw); simp only [List.getElem_toArray, List.getElem_cons_zero, List.getElem_cons_succ]; go_simp; first | done | with_reducible rfl)
 simp only [List.getElem_toArray, List.getElem_cons_zero, List.getElem_cons_succ, Act.put, List.setIfInBounds_toArray, List.set_cons_zero, List.set_cons_succ]
 refine wpAnyH_take (i := 6) (v := ?_) rfl (by kernel_rfl) (by kernel_rfl) (by kernel_rfl) (fun _ _ _ h => h) (Or.inl ⟨by rfl, ?_⟩) (by assumption) ?_
 rotate_left
 ·(intro w hSw; (try dsimp only at hSw); simp only [List.getElem_toArray, List.getElem_cons_zero, List.getElem_cons_succ]; go_simp; first | done | with_reducible rfl)
 simp only [List.getElem_toArray, List.getElem_cons_zero, List.getElem_cons_succ, Act.put, List.setIfInBounds_toArray, List.set_cons_zero, List.set_cons_succ]
 refine wpAnyH_take (i := 7) (v := ?_) rfl (by kernel_rfl) (by kernel_rfl) (by kernel_rfl) (fun _ _ _ h => h) (Or.inl ⟨by rfl, ?_⟩) (by assumption) ?_
 rotate_left
 ·(intro w hSw; (try dsimp only at hSw); simp only [List.getElem_toArray, List.getElem_cons_zero, List.getElem_cons_succ]; go_simp; first | done | with_reducible rfl)
 simp only [List.getElem_toArray, List.getElem_cons_zero, List.getElem_cons_succ, Act.put, List.setIfInBounds_toArray, List.set_cons_zero, List.set_cons_succ]
 refine wpAnyH_take (i := 8) (v := ?_) rfl (by kernel_rfl) (by kernel_rfl) (by kernel_rfl) (fun _ _ _ h => h) (Or.inl ⟨by rfl, ?_⟩) (by assumption) ?_
 rotate_left
 ·(intro w hSw; (try dsimp only at hSw); simp only [List.getElem_toArray, List.getElem_cons_zero, List.getElem_cons_succ]; go_simp; first | done | with_reducible rfl)
 simp only [List.getElem_toArray, List.getElem_cons_zero, List.getElem_cons_succ, Act.put, List.setIfInBounds_toArray, List.set_cons_zero, List.set_cons_succ]
 refine wpAnyH_take (i := 9) (v := ?_) rfl (by kernel_rfl) (by kernel_rfl) (by kernel_rfl) (fun _ _ _ h => h) (Or.inl ⟨by rfl, ?_⟩) (by assumption) ?_
 rotate_left
 ·(intro w hSw; (try dsimp only at hSw); simp only [List.getElem_toArray, List.getElem_cons_zero, List.getElem_cons_succ]; go_simp; first | done | with_reducible rfl)
 simp only [List.getElem_toArray, List.getElem_cons_zero, List.getElem_cons_succ, Act.put, List.setIfInBounds_toArray, List.set_cons_zero, List.set_cons_succ]
 refine wpAnyH_ready (rs := [10]) (by kernel_rfl) (by simp) ?_
 refine AllReadyH.cons rfl (fun K hK => ?_) AllReadyH.nil
 simp only [List.getElem_toArray, List.getElem_cons_zero, List.getElem_cons_succ]
 rw [if_pos (by rfl)]
 refine wp_store_mid 73 _ _ rfl w.heap.size 20 (([.int .u64 (x0.n : Int), .int .u64 (x1.n : Int)] : List Value)).toArray rfl rfl HTT.out.1 HTT.out.2.1 HTT.out.2.2 ?_
 refine hK.out _ _ (HCE.out _ HX.out.below) (fun hHeld => ?_)
 clear hK K
 simp only [Act.put, List.setIfInBounds_toArray, List.set_cons_zero, List.set_cons_succ]
 refine wpAnyH_done (by kernel_rfl) ?_ _
 clear hHeld
 go_wp2_with (first
  | (refine wpList_load_mid rfl 80 _ rfl w.heap.size 0 rfl IL _ HRC.out Tryz.underlying80 rfl HII.out ?_)
  | (refine wpList_store_mid rfl 80 _ _ rfl (w.heap.size + 1) 0 IL.toArray rfl rfl HTH2.out HIJ.out HON.out.2 ?_))
 exact bodyPost_ret (v := .tuple #[.agg IL.toArray, .bool true]) (resMt rfl _ _ _ _ rfl rfl HON.out.1 HTH.out) rfl (HFIN.out _)
set_option maxRecDepth 100000 in
set_option maxHeartbeats 6400000 in
theorem rput_st (b : Ms0) (x0 x1 x2 x3 x4 x5 : V) (z0 z1 z2 z3 z4 z5 : Value) (s1 s2 v : Value) (w0 w : World) (R : Nat) (h1 : Rd w0 1 s1 b.op.data.length (bV b.op.data)) (h2 : Rd w0 1 s2 b.item.op.data.length (bV b.item.op.data)) (hd : b.item.data.length = 256) (hr : RVrow w0 R w v [(x0, z0), (x1, z1), (x2, z2), (x3, z3), (x4, z4), (x5, z5)]) :
  Calls Tryz.prog 54 #[.agg (msL b s1 s2).toArray, .int .u8 116, v] w (RPutP w0 w { b with st := ⟨x0.n, x1.n, x2.n, x3.n, x4.n, x5.yes⟩ } true) := by
 obtain ⟨g, cap, rfl, hgl, _, hnc, hcm, hget⟩ := rv_cells hr (by simp)
 simp only [List.length_cons, List.length_nil, Nat.zero_add, Nat.reduceAdd] at hnc ⊢
 have HGET := Lib.hid hget
 have HF0 := Lib.hid (FinP.new (w := w) h1 h2 hd)
 obtain ⟨AL, hAL⟩ : ∃ L, msL b s1 s2 = L := ⟨_, rfl⟩
 obtain ⟨W1, hW1⟩ : ∃ W, (w.alloc (.cells AL.toArray 80)).alloc (.cells Tryz.zeroCells80 80) = W := ⟨_, rfl⟩
 have HO := Lib.hid (And.intro h1 h2)
 have HD := Lib.hid hd
 rw [hAL, hW1] at HF0
 rw [hAL]
 have HGL := Lib.hid hgl
 clear hget hgl h1 h2 hd hAL hr
 have HX : Hid (FinP w0 w (W1.drew.setCells w.heap.size 2 (stL ⟨x0.n, x1.n, x2.n, x3.n, x4.n, x5.yes⟩)) { b with st := ⟨x0.n, x1.n, x2.n, x3.n, x4.n, x5.yes⟩ } s1 s2) := Lib.hid ((HF0.out.mono (Below.refl _ _).drew).put (b' := { b with st := ⟨x0.n, x1.n, x2.n, x3.n, x4.n, x5.yes⟩ }) (Y := stL ⟨x0.n, x1.n, x2.n, x3.n, x4.n, x5.yes⟩) (msL_st b s1 s2) rfl rfl (msL_st { b with st := ⟨x0.n, x1.n, x2.n, x3.n, x4.n, x5.yes⟩ } s1 s2) HO.out.1 HO.out.2 HD.out)
 have HCE : Hid (∀ X, Below w.heap.size w X → X.cell? ⟨g, 1, none⟩ = some (.int .u64 (x0.n : Int)) ∧ X.cell? ⟨g, 261, none⟩ = some (.int .u64 (x1.n : Int)) ∧ X.cell? ⟨g, 521, none⟩ = some (.int .u64 (x2.n : Int)) ∧ X.cell? ⟨g, 781, none⟩ = some (.int .u64 (x3.n : Int)) ∧ X.cell? ⟨g, 1041, none⟩ = some (.int .u64 (x4.n : Int)) ∧ X.cell? ⟨g, 1302, none⟩ = some (.bool x5.yes)) := Lib.hid (fun X hX => ⟨(HGET.out 0 _ _ rfl).2.2 X hX 1 _ rfl, (HGET.out 1 _ _ rfl).2.2 X hX 1 _ rfl, (HGET.out 2 _ _ rfl).2.2 X hX 1 _ rfl, (HGET.out 3 _ _ rfl).2.2 X hX 1 _ rfl, (HGET.out 4 _ _ rfl).2.2 X hX 1 _ rfl, (HGET.out 5 _ _ rfl).2.2 X hX 2 _ rfl⟩)
 have hth : W1.drew.there w.heap.size 2 (stL ⟨x0.n, x1.n, x2.n, x3.n, x4.n, x5.yes⟩).toArray.size := (HF0.out.mono (Below.refl _ _).drew).there (by show 2 + 6 ≤ 290; omega)
 have hin : (Tryz.prog.info? 67).map (·.size) = some (stL ⟨x0.n, x1.n, x2.n, x3.n, x4.n, x5.yes⟩).toArray.size := by show _ = some 6; exact infoSt
 have hal : (stL ⟨x0.n, x1.n, x2.n, x3.n, x4.n, x5.yes⟩).toArray.all (·.oneCell') = true := stL_all _
 obtain ⟨IL, hIL, hil, hone, hrc, hth, hth2, hii, hij, hfin⟩ := HX.out.fin
 have HRC := Lib.hid hrc
 have HTH := Lib.hid hth
 have HTH2 := Lib.hid hth2
 have HII := Lib.hid hii
 have HIJ := Lib.hid hij
 have HON := Lib.hid (And.intro hil hone)
 have HFIN := Lib.hid hfin
 clear hIL hil hone hrc hth hth2 hii hij hfin
 have HTT := Lib.hid (And.intro hth (And.intro hin hal))
 clear hth hin hal
 go_enter Tryz.func54, Tryz.ntmps54
 go_upto_region 4 with fail
 clear hW1
 have HS0 := HCE.out _ (HF0.out.mono (Below.refl _ _).drew).below
 refine wp_region_held_drew (S := fun X => X.cell? ⟨g, 1, none⟩ = some (.int .u64 (x0.n : Int)) ∧ X.cell? ⟨g, 261, none⟩ = some (.int .u64 (x1.n : Int)) ∧ X.cell? ⟨g, 521, none⟩ = some (.int .u64 (x2.n : Int)) ∧ X.cell? ⟨g, 781, none⟩ = some (.int .u64 (x3.n : Int)) ∧ X.cell? ⟨g, 1041, none⟩ = some (.int .u64 (x4.n : Int)) ∧ X.cell? ⟨g, 1302, none⟩ = some (.bool x5.yes)) (by kernel_rfl) HS0 (fun hHeld => ?_)
 clear HS0
 refine wpAnyH_take (i := 0) (v := ?_) rfl (by kernel_rfl) (by kernel_rfl) (by kernel_rfl) (fun _ _ _ h => h) (Or.inl ⟨by rfl, ?_⟩) (by assumption) ?_
 rotate_left
 ·(intro w hSw; (try dsimp only at hSw); simp only [List.getElem_toArray, List.getElem_cons_zero, List.getElem_cons_succ]; go_simp; first | done | with_reducible rfl)
 simp only [List.getElem_toArray, List.getElem_cons_zero, List.getElem_cons_succ, Act.put, List.setIfInBounds_toArray, List.set_cons_zero, List.set_cons_succ]
 refine wpAnyH_take (i := 1) (v := ?_) rfl (by kernel_rfl) (by kernel_rfl) (by kernel_rfl) (fun _ _ _ h => h) (Or.inl ⟨by rfl, ?_⟩) (by assumption) ?_
 rotate_left
 ·(intro w hSw; (try dsimp only at hSw); simp only [List.getElem_toArray, List.getElem_cons_zero, List.getElem_cons_succ]; go_simp; first | done | with_reducible rfl)
 simp only [List.getElem_toArray, List.getElem_cons_zero, List.getElem_cons_succ, Act.put, List.setIfInBounds_toArray, List.set_cons_zero, List.set_cons_succ]
 refine wpAnyH_take (i := 2) (v := ?_) rfl (by kernel_rfl) (by kernel_rfl) (by kernel_rfl) (fun _ _ _ h => h) (Or.inl ⟨by rfl, ?_⟩) (by assumption) ?_
 rotate_left
 ·(intro w hSw; (try dsimp only at hSw); simp only [List.getElem_toArray, List.getElem_cons_zero, List.getElem_cons_succ]; go_simp; first | done | with_reducible rfl)
 simp only [List.getElem_toArray, List.getElem_cons_zero, List.getElem_cons_succ, Act.put, List.setIfInBounds_toArray, List.set_cons_zero, List.set_cons_succ]
 refine wpAnyH_take (i := 3) (v := ?_) rfl (by kernel_rfl) (by kernel_rfl) (by kernel_rfl) (fun _ _ _ h => h) (Or.inl ⟨by rfl, ?_⟩) (by assumption) ?_
 rotate_left
 ·(intro w hSw; (try dsimp only at hSw); simp only [List.getElem_toArray, List.getElem_cons_zero, List.getElem_cons_succ]; go_simp; first | done | with_reducible rfl)
 simp only [List.getElem_toArray, List.getElem_cons_zero, List.getElem_cons_succ, Act.put, List.setIfInBounds_toArray, List.set_cons_zero, List.set_cons_succ]
 refine wpAnyH_take (i := 4) (v := ?_) rfl (by kernel_rfl) (by kernel_rfl) (by kernel_rfl) (fun _ _ _ h => h) (Or.inl ⟨by rfl, ?_⟩) (by assumption) ?_
 rotate_left
 ·(intro w hSw; (try dsimp only at hSw); simp only [List.getElem_toArray, List.getElem_cons_zero, List.getElem_cons_succ]; go_simp; first | done | with_reducible rfl)
 simp only [List.getElem_toArray, List.getElem_cons_zero, List.getElem_cons_succ, Act.put, List.setIfInBounds_toArray, List.set_cons_zero, List.set_cons_succ]
 refine wpAnyH_take (i := 5) (v := ?_) rfl (by kernel_rfl) (by kernel_rfl) (by kernel_rfl) (fun _ _ _ h => h) (Or.inl ⟨by rfl, ?_⟩) (by assumption) ?_
 rotate_left
 ·(intro w hSw; (try dsimp only at hSw); simp only [List.getElem_toArray, List.getElem_cons_zero, List.getElem_cons_succ]; go_simp; first | done | with_reducible rfl)
 simp only [List.getElem_toArray, List.getElem_cons_zero, List.getElem_cons_succ, Act.put, List.setIfInBounds_toArray, List.set_cons_zero, List.set_cons_succ]
 refine wpAnyH_take (i := 6) (v := ?_) rfl (by kernel_rfl) (by kernel_rfl) (by kernel_rfl) (fun _ _ _ h => h) (Or.inl ⟨by rfl, ?_⟩) (by assumption) ?_
 rotate_left
 ·(intro w hSw; (try dsimp only at hSw); simp only [List.getElem_toArray, List.getElem_cons_zero, List.getElem_cons_succ]; go_simp; first | done | with_reducible rfl)
 simp only [List.getElem_toArray, List.getElem_cons_zero, List.getElem_cons_succ, Act.put, List.setIfInBounds_toArray, List.set_cons_zero, List.set_cons_succ]
 refine wpAnyH_take (i := 7) (v := ?_) rfl (by kernel_rfl) (by kernel_rfl) (by kernel_rfl) (fun _ _ _ h => h) (Or.inl ⟨by rfl, ?_⟩) (by assumption) ?_
 rotate_left
 ·(intro w hSw; (try dsimp only at hSw); simp only [List.getElem_toArray, List.getElem_cons_zero, List.getElem_cons_succ]; go_simp; first | done | with_reducible rfl)
 simp only [List.getElem_toArray, List.getElem_cons_zero, List.getElem_cons_succ, Act.put, List.setIfInBounds_toArray, List.set_cons_zero, List.set_cons_succ]
 refine wpAnyH_take (i := 8) (v := ?_) rfl (by kernel_rfl) (by kernel_rfl) (by kernel_rfl) (fun _ _ _ h => h) (Or.inl ⟨by rfl, ?_⟩) (by assumption) ?_
 rotate_left
 ·(intro w hSw; (try dsimp only at hSw); simp only [List.getElem_toArray, List.getElem_cons_zero, List.getElem_cons_succ]; go_simp; first | done | with_reducible rfl)
 simp only [List.getElem_toArray, List.getElem_cons_zero, List.getElem_cons_succ, Act.put, List.setIfInBounds_toArray, List.set_cons_zero, List.set_cons_succ]
 refine wpAnyH_take (i := 9) (v := ?_) rfl (by kernel_rfl) (by kernel_rfl) (by kernel_rfl) (fun _ _ _ h => h) (Or.inl ⟨by rfl, ?_⟩) (by assumption) ?_
 rotate_left
 ·(intro w hSw; (try dsimp only at hSw); simp only [List.getElem_toArray, List.getElem_cons_zero, List.getElem_cons_succ]; go_simp; first | done | with_reducible rfl)
 simp only [List.getElem_toArray, List.getElem_cons_zero, List.getElem_cons_succ, Act.put, List.setIfInBounds_toArray, List.set_cons_zero, List.set_cons_succ]
 refine wpAnyH_take (i := 10) (v := ?_) rfl (by kernel_rfl) (by kernel_rfl) (by kernel_rfl) (fun _ _ _ h => h) (Or.inl ⟨by rfl, ?_⟩) (by assumption) ?_
 rotate_left
 ·(intro w hSw; (try dsimp only at hSw); simp only [List.getElem_toArray, List.getElem_cons_zero, List.getElem_cons_succ]; go_simp; first | done | with_reducible rfl)
 simp only [List.getElem_toArray, List.getElem_cons_zero, List.getElem_cons_succ, Act.put, List.setIfInBounds_toArray, List.set_cons_zero, List.set_cons_succ]
 refine wpAnyH_take (i := 11) (v := ?_) rfl (by kernel_rfl) (by kernel_rfl) (by kernel_rfl) (fun _ _ _ h => h) (Or.inl ⟨by rfl, ?_⟩) (by assumption) ?_
 rotate_left
 ·(intro w hSw; (try dsimp only at hSw); simp only [List.getElem_toArray, List.getElem_cons_zero, List.getElem_cons_succ]; go_simp; first | done | with_reducible rfl)
 simp only [List.getElem_toArray, List.getElem_cons_zero, List.getElem_cons_succ, Act.put, List.setIfInBounds_toArray, List.set_cons_zero, List.set_cons_succ]
 refine wpAnyH_take (i := 12) (v := ?_) rfl (by kernel_rfl) (by kernel_rfl) (by kernel_rfl) (fun _ _ _ h => h) (Or.inl ⟨by rfl, ?_⟩) (by assumption) ?_
 rotate_left
 ·(intro w hSw; (try dsimp only at hSw); simp only [List.getElem_toArray, List.getElem_cons_zero, List.getElem_cons_succ]; go_simp; first | done | with_reducible rfl)
 simp only [List.getElem_toArray, List.getElem_cons_zero, List.getElem_cons_succ, Act.put, List.setIfInBounds_toArray, List.set_cons_zero, List.set_cons_succ]
 refine wpAnyH_take (i := 13) (v := ?_) rfl (by kernel_rfl) (by kernel_rfl) (by kernel_rfl) (fun _ _ _ h => h) (Or.inl ⟨by rfl, ?_⟩) (by assumption) ?_
 rotate_left
 ·(intro w hSw; (try dsimp only at hSw); simp only [List.getElem_toArray, List.getElem_cons_zero, List.getElem_cons_succ]; go_simp; first | done | with_reducible rfl)
 simp only [List.getElem_toArray, List.getElem_cons_zero, List.getElem_cons_succ, Act.put, List.setIfInBounds_toArray, List.set_cons_zero, List.set_cons_succ]
 refine wpAnyH_take (i := 14) (v := ?_) rfl (by kernel_rfl) (by kernel_rfl) (by kernel_rfl) (fun _ _ _ h => h) (Or.inl ⟨by rfl, ?_⟩) (by assumption) ?_
 rotate_left
 ·(intro w hSw; (try dsimp only at hSw); simp only [List.getElem_toArray, List.getElem_cons_zero, List.getElem_cons_succ]; go_simp; first | done | with_reducible rfl)
 simp only [List.getElem_toArray, List.getElem_cons_zero, List.getElem_cons_succ, Act.put, List.setIfInBounds_toArray, List.set_cons_zero, List.set_cons_succ]
 refine wpAnyH_take (i := 15) (v := ?_) rfl (by kernel_rfl) (by kernel_rfl) (by kernel_rfl) (fun _ _ _ h => h) (Or.inl ⟨by rfl, ?_⟩) (by assumption) ?_
 rotate_left
 ·(intro w hSw; (try dsimp only at hSw); simp only [List.getElem_toArray, List.getElem_cons_zero, List.getElem_cons_succ]; go_simp; first | done | with_reducible rfl)
 simp only [List.getElem_toArray, List.getElem_cons_zero, List.getElem_cons_succ, Act.put, List.setIfInBounds_toArray, List.set_cons_zero, List.set_cons_succ]
 refine wpAnyH_take (i := 16) (v := ?_) rfl (by kernel_rfl) (by kernel_rfl) (by kernel_rfl) (fun _ _ _ h => h) (Or.inl ⟨by rfl, ?_⟩) (by assumption) ?_
 rotate_left
 ·(intro w hSw; (try dsimp only at hSw); simp only [List.getElem_toArray, List.getElem_cons_zero, List.getElem_cons_succ]; go_simp; first | done | with_reducible rfl)
 simp only [List.getElem_toArray, List.getElem_cons_zero, List.getElem_cons_succ, Act.put, List.setIfInBounds_toArray, List.set_cons_zero, List.set_cons_succ]
 refine wpAnyH_take (i := 17) (v := ?_) rfl (by kernel_rfl) (by kernel_rfl) (by kernel_rfl) (fun _ _ _ h => h) (Or.inl ⟨by rfl, ?_⟩) (by assumption) ?_
 rotate_left
 ·(intro w hSw; (try dsimp only at hSw); simp only [List.getElem_toArray, List.getElem_cons_zero, List.getElem_cons_succ]; go_simp; first | done | with_reducible rfl)
 simp only [List.getElem_toArray, List.getElem_cons_zero, List.getElem_cons_succ, Act.put, List.setIfInBounds_toArray, List.set_cons_zero, List.set_cons_succ]
 refine wpAnyH_take (i := 18) (v := ?_) rfl (by kernel_rfl) (by kernel_rfl) (by kernel_rfl) (fun _ _ _ h => h) (Or.inl ⟨by rfl, ?_⟩) (by assumption) ?_
 rotate_left
 ·(intro w hSw; (try dsimp only at hSw); simp only [List.getElem_toArray, List.getElem_cons_zero, List.getElem_cons_succ]; go_simp; first | done | with_reducible rfl)
 simp only [List.getElem_toArray, List.getElem_cons_zero, List.getElem_cons_succ, Act.put, List.setIfInBounds_toArray, List.set_cons_zero, List.set_cons_succ]
 refine wpAnyH_take (i := 19) (v := ?_) rfl (by kernel_rfl) (by kernel_rfl) (by kernel_rfl) (fun _ _ _ h => h) (Or.inl ⟨by rfl, ?_⟩) (by assumption) ?_
 rotate_left
 ·(intro w hSw; (try dsimp only at hSw); simp only [List.getElem_toArray, List.getElem_cons_zero, List.getElem_cons_succ]; go_simp; first | done | with_reducible rfl)
 simp only [List.getElem_toArray, List.getElem_cons_zero, List.getElem_cons_succ, Act.put, List.setIfInBounds_toArray, List.set_cons_zero, List.set_cons_succ]
 refine wpAnyH_take (i := 20) (v := ?_) rfl (by kernel_rfl) (by kernel_rfl) (by kernel_rfl) (fun _ _ _ h => h) (Or.inl ⟨by rfl, ?_⟩) (by assumption) ?_
 rotate_left
 ·(intro w hSw; (try dsimp only at hSw); simp only [List.getElem_toArray, List.getElem_cons_zero, List.getElem_cons_succ]; go_simp; first | done | with_reducible rfl)
 simp only [List.getElem_toArray, List.getElem_cons_zero, List.getElem_cons_succ, Act.put, List.setIfInBounds_toArray, List.set_cons_zero, List.set_cons_succ]
 refine wpAnyH_take (i := 21) (v := ?_) rfl (by kernel_rfl) (by kernel_rfl) (by kernel_rfl) (fun _ _ _ h => h) (Or.inl ⟨by rfl, ?_⟩) (by assumption) ?_
 rotate_left
 ·(intro w hSw; (try dsimp only at hSw); simp only [List.getElem_toArray, List.getElem_cons_zero, List.getElem_cons_succ]; go_simp; first | done | with_reducible rfl)
 simp only [List.getElem_toArray, List.getElem_cons_zero, List.getElem_cons_succ, Act.put, List.setIfInBounds_toArray, List.set_cons_zero, List.set_cons_succ]
 refine wpAnyH_take (i := 22) (v := ?_) rfl (by kernel_rfl) (by kernel_rfl) (by kernel_rfl) (fun _ _ _ h => h) (Or.inl ⟨by rfl, ?_⟩) (by assumption) ?_
 rotate_left
 ·(intro w hSw; (try dsimp only at hSw); simp only [List.getElem_toArray, List.getElem_cons_zero, List.getElem_cons_succ]; go_simp; first | done | with_reducible rfl)
 simp only [List.getElem_toArray, List.getElem_cons_zero, List.getElem_cons_succ, Act.put, List.setIfInBounds_toArray, List.set_cons_zero, List.set_cons_succ]
 refine wpAnyH_take (i := 23) (v := ?_) rfl (by kernel_rfl) (by kernel_rfl) (by kernel_rfl) (fun _ _ _ h => h) (Or.inl ⟨by rfl, ?_⟩) (by assumption) ?_
 rotate_left
 ·(intro w hSw; (try dsimp only at hSw); simp only [List.getElem_toArray, List.getElem_cons_zero, List.getElem_cons_succ]; go_simp; first | done | with_reducible rfl)
 simp only [List.getElem_toArray, List.getElem_cons_zero, List.getElem_cons_succ, Act.put, List.setIfInBounds_toArray, List.set_cons_zero, List.set_cons_succ]
 refine wpAnyH_take (i := 24) (v := ?_) rfl (by kernel_rfl) (by kernel_rfl) (by kernel_rfl) (fun _ _ _ h => h) (Or.inl ⟨by rfl, ?_⟩) (by assumption) ?_
 rotate_left
 ·(intro w hSw; (try dsimp only at hSw); simp only [List.getElem_toArray, List.getElem_cons_zero, List.getElem_cons_succ]; go_simp; first | done | with_reducible rfl)
 simp only [List.getElem_toArray, List.getElem_cons_zero, List.getElem_cons_succ, Act.put, List.setIfInBounds_toArray, List.set_cons_zero, List.set_cons_succ]
 refine wpAnyH_take (i := 25) (v := ?_) rfl (by kernel_rfl) (by kernel_rfl) (by kernel_rfl) (fun _ _ _ h => h) (Or.inl ⟨by rfl, ?_⟩) (by assumption) ?_
 rotate_left
 ·(intro w hSw; (try dsimp only at hSw); simp only [List.getElem_toArray, List.getElem_cons_zero, List.getElem_cons_succ]; go_simp; first | done | with_reducible rfl)
 simp only [List.getElem_toArray, List.getElem_cons_zero, List.getElem_cons_succ, Act.put, List.setIfInBounds_toArray, List.set_cons_zero, List.set_cons_succ]
 refine wpAnyH_ready (rs := [26]) (by kernel_rfl) (by simp) ?_
 refine AllReadyH.cons rfl (fun K hK => ?_) AllReadyH.nil
 simp only [List.getElem_toArray, List.getElem_cons_zero, List.getElem_cons_succ]
 rw [if_pos (by rfl)]
 refine wp_store_mid 67 _ _ rfl w.heap.size 2 (stL ⟨x0.n, x1.n, x2.n, x3.n, x4.n, x5.yes⟩).toArray rfl rfl HTT.out.1 HTT.out.2.1 HTT.out.2.2 ?_
 refine hK.out _ _ (HCE.out _ HX.out.below) (fun hHeld => ?_)
 clear hK K
 simp only [Act.put, List.setIfInBounds_toArray, List.set_cons_zero, List.set_cons_succ]
 refine wpAnyH_done (by kernel_rfl) ?_ _
 clear hHeld
 go_wp2_with (first
  | (refine wpList_load_mid rfl 80 _ rfl w.heap.size 0 rfl IL _ HRC.out Tryz.underlying80 rfl HII.out ?_)
  | (refine wpList_store_mid rfl 80 _ _ rfl (w.heap.size + 1) 0 IL.toArray rfl rfl HTH2.out HIJ.out HON.out.2 ?_))
 exact bodyPost_ret (v := .tuple #[.agg IL.toArray, .bool true]) (resMt rfl _ _ _ _ rfl rfl HON.out.1 HTH.out) rfl (HFIN.out _)
set_option maxRecDepth 100000 in
set_option maxHeartbeats 6400000 in
theorem rput_op (b : Ms0) (x0 : V) (z0 : Value) (hxl : x0.b.length ≤ 20000) (s1 s2 v : Value) (w0 w : World) (R : Nat) (hbw : Below w0.heap.size w0 w) (h1 : Rd w0 1 s1 b.op.data.length (bV b.op.data)) (h2 : Rd w0 1 s2 b.item.op.data.length (bV b.item.op.data)) (hd : b.item.data.length = 256) (hr : RVrow w0 R w v [(x0, z0)]) :
  Calls Tryz.prog 54 #[.agg (msL b s1 s2).toArray, .int .u8 111, v] w (RPutP w0 w { b with op := oO (ofO x0.b) } (ofO x0.b).isSome) := by
 obtain ⟨g, cap, rfl, hgl, _, hnc, hcm, hget⟩ := rv_cells hr (by simp)
 simp only [List.length_cons, List.length_nil, Nat.zero_add, Nat.reduceAdd] at hnc ⊢
 have HGET := Lib.hid hget
 have HF0 := Lib.hid (FinP.new (w := w) h1 h2 hd)
 obtain ⟨AL, hAL⟩ : ∃ L, msL b s1 s2 = L := ⟨_, rfl⟩
 obtain ⟨W1, hW1⟩ : ∃ W, (w.alloc (.cells AL.toArray 80)).alloc (.cells Tryz.zeroCells80 80) = W := ⟨_, rfl⟩
 have HO := Lib.hid (And.intro h1 h2)
 have HD := Lib.hid hd
 rw [hAL, hW1] at HF0
 rw [hAL]
 have HGL := Lib.hid hgl
 clear hget hgl h1 h2 hd hAL hr
 obtain ⟨_, hsx, _⟩ := HGET.out 0 _ _ rfl
 have HSX := Lib.hid hsx
 obtain ⟨aox, capx, rfl, _⟩ := hsx
 have CO := Lib.hid (rofO_any x0.b _ w0 W1 HSX.out (bthen hbw HF0.out.below) hxl)
 have c0 : W1.cell? ⟨g, 3, none⟩ = some _ := (HGET.out 0 _ _ rfl).2.2 W1 HF0.out.below 3 _ rfl
 clear hxl hbw
 go_enter Tryz.func54, Tryz.ntmps54
 go_upto_region 16 with fail
 clear hW1
 go_wp2_with fail
 refine CO.out.mono ?_
 rintro e w2 ⟨hb2, sl', rfl, hr2⟩
 have HF2 := Lib.hid (HF0.out.mono hb2)
 have hone : sl'.oneCell' = true := rdOne hr2
 have HX : Hid (FinP w0 w (w2.setCells w.heap.size 10 (opL (oO (ofO x0.b)) sl')) { b with op := oO (ofO x0.b) } sl' s2) := Lib.hid (HF2.out.put (b' := { b with op := oO (ofO x0.b) }) (Y := opL (oO (ofO x0.b)) sl') (msL_op b s1 s2) rfl rfl (msL_op { b with op := oO (ofO x0.b) } sl' s2) hr2 HO.out.2 HD.out)
 obtain ⟨Y, hY, hyl, hyo⟩ : ∃ Y : List Value, opL (oO (ofO x0.b)) sl' = Y ∧ Y.length = 7 ∧ Y.toArray.all (·.oneCell') = true := ⟨_, rfl, rfl, all_oneL (opL_one hone)⟩
 have hY2 : oC (oO (ofO x0.b)) sl' = Y.toArray := by rw [← hY]; rfl
 rw [hY] at HX
 rw [hY2]
 have HT2 : Hid (w2.there w.heap.size 10 Y.toArray.size) := Lib.hid (HF2.out.there (by rw [List.size_toArray, hyl]; omega))
 have HY2 : Hid ((Tryz.prog.info? 70).map (·.size) = some Y.toArray.size) := Lib.hid (by rw [List.size_toArray, hyl]; exact infoOp)
 have HYO := Lib.hid hyo
 clear hY hY2 hyl hyo hb2 hr2 hone CO c0
 obtain ⟨IL, hIL, hil, hone, hrc, hth, hth2, hii, hij, hfin⟩ := HX.out.fin
 have HRC := Lib.hid hrc
 have HTH := Lib.hid hth
 have HTH2 := Lib.hid hth2
 have HII := Lib.hid hii
 have HIJ := Lib.hid hij
 have HON := Lib.hid (And.intro hil hone)
 have HFIN := Lib.hid hfin
 clear hIL hil hone hrc hth hth2 hii hij hfin
 generalize (ofO x0.b).isSome = oy at *
 go_upto_region 19 with (first
  | (refine wpList_store_mid rfl 70 _ _ rfl w.heap.size 10 Y.toArray rfl rfl HT2.out HY2.out HYO.out ?_))
 go_wp2_with (first
  | (refine wpList_load_mid rfl 80 _ rfl w.heap.size 0 rfl IL _ HRC.out Tryz.underlying80 rfl HII.out ?_)
  | (refine wpList_store_mid rfl 80 _ _ rfl (w.heap.size + 1) 0 IL.toArray rfl rfl HTH2.out HIJ.out HON.out.2 ?_))
 exact bodyPost_ret (v := .tuple #[.agg IL.toArray, .bool oy]) (resMt rfl _ _ _ _ rfl rfl HON.out.1 HTH.out) rfl (HFIN.out _)
/-- Is what a letter stands for there? -/
def okC (c : UInt8) (l : List V) : Bool := if c = 111 then (ofO (l.headD (num 0)).b).isSome else true
theorem okC_bad {c : UInt8} {l : List V} (h : okC c l = false) (b : Ms0) : kept (c.toNat : Int) (getM b (c.toNat : Int) l) = false := by
 unfold okC at h
 split at h
 ·rename_i hc
  subst hc
  have e : ofO (l.headD (num 0)).b = none := by simpa using h
  have k : kept (((111 : UInt8).toNat : Nat) : Int) (getM b (((111 : UInt8).toNat : Nat) : Int) l) = mayO ((ofO (l.headD (num 0)).b).getD op0) := rfl
  rw [k, e]
  decide
 ·cases h
theorem rput_any (b : Ms0) (c : UInt8) (hc : nine c) (h105 : c ≠ 105) {k : Int} {bs : List UInt8} {cs : List (V × Value)} {n : Nat} (hu : unpack (shapeC (c.toNat : Int) k) bs = some (cs.map Prod.fst, n)) (hbl : bs.length ≤ 20000) (s1 s2 v : Value) (w0 w : World) (R : Nat) (hbw : Below w0.heap.size w0 w)
  (h1 : Rd w0 1 s1 b.op.data.length (bV b.op.data)) (h2 : Rd w0 1 s2 b.item.op.data.length (bV b.item.op.data)) (hd : b.item.data.length = 256) (hr : RVrow w0 R w v cs) :
  Calls Tryz.prog 54 #[.agg (msL b s1 s2).toArray, .int .u8 (c.toNat : Int), v] w (RPutP w0 w (getM b (c.toNat : Int) (cs.map Prod.fst)) (okC c (cs.map Prod.fst))) := by
 have hbb := unpack_bl hu
 rcases hc with rfl | rfl | rfl | rfl | rfl | rfl | rfl | rfl | rfl
 ·obtain ⟨y1, k1, l1, m1, e1, hu1, he1, _⟩ := unpack_cons (c := 56) (s := [56, 56, 56, 56, 63]) hu
  obtain ⟨y2, k2, l2, m2, e2, hu2, he2, _⟩ := unpack_cons hu1
  obtain ⟨y3, k3, l3, m3, e3, hu3, he3, _⟩ := unpack_cons hu2
  obtain ⟨y4, k4, l4, m4, e4, hu4, he4, _⟩ := unpack_cons hu3
  obtain ⟨y5, k5, l5, m5, e5, hu5, he5, _⟩ := unpack_cons hu4
  obtain ⟨y6, k6, l6, m6, e6, hu6, he6, _⟩ := unpack_cons hu5
  have hn := unpack_nil hu6
  subst hn
  subst he6
  subst he5
  subst he4
  subst he3
  subst he2
  obtain ⟨s1', s2', s3', s4', s5', s6', rfl⟩ := map_six he1
  exact rput_st b y1 y2 y3 y4 y5 y6 s1' s2' s3' s4' s5' s6' s1 s2 v w0 w R h1 h2 hd hr
 ·obtain ⟨y1, k1, l1, m1, e1, hu1, he1, _⟩ := unpack_cons (c := 63) (s := []) hu
  have hn := unpack_nil hu1
  subst hn
  obtain ⟨s1', rfl⟩ := map_one he1
  exact rput_lead b y1 s1' s1 s2 v w0 w R h1 h2 hd hr
 ·obtain ⟨y1, k1, l1, m1, e1, hu1, he1, _⟩ := unpack_cons (c := 56) (s := []) hu
  have hn := unpack_nil hu1
  subst hn
  obtain ⟨s1', rfl⟩ := map_one he1
  exact rput_num b y1 s1' s1 s2 v w0 w R h1 h2 hd hr
 ·obtain ⟨y1, k1, l1, m1, e1, hu1, he1, _⟩ := unpack_cons (c := 56) (s := []) hu
  have hn := unpack_nil hu1
  subst hn
  obtain ⟨s1', rfl⟩ := map_one he1
  exact rput_seq b y1 s1' s1 s2 v w0 w R h1 h2 hd hr
 ·obtain ⟨y1, k1, l1, m1, e1, hu1, he1, _⟩ := unpack_cons (c := 49) (s := []) hu
  have hn := unpack_nil hu1
  subst hn
  obtain ⟨s1', rfl⟩ := map_one he1
  exact rput_fro b y1 s1' (by have := (lift_49 e1).2; omega) s1 s2 v w0 w R h1 h2 hd hr
 ·obtain ⟨y1, k1, l1, m1, e1, hu1, he1, _⟩ := unpack_cons (c := 56) (s := [56]) hu
  obtain ⟨y2, k2, l2, m2, e2, hu2, he2, _⟩ := unpack_cons hu1
  have hn := unpack_nil hu2
  subst hn
  subst he2
  obtain ⟨s1', s2', rfl⟩ := map_two he1
  exact rput_name b y1 y2 s1' s2' s1 s2 v w0 w R h1 h2 hd hr
 ·obtain ⟨y1, k1, l1, m1, e1, hu1, he1, _⟩ := unpack_cons (c := 42) (s := []) hu
  have hn := unpack_nil hu1
  subst hn
  have hb1 : y1.b.length ≤ 20000 := by have := hbb y1 (by rw [he1]; simp); omega
  obtain ⟨s1', rfl⟩ := map_one he1
  exact rput_op b y1 s1' hb1 s1 s2 v w0 w R hbw h1 h2 hd hr
 ·obtain ⟨y1, k1, l1, m1, e1, hu1, he1, _⟩ := unpack_cons (c := 52) (s := []) hu
  have hn := unpack_nil hu1
  subst hn
  obtain ⟨s1', rfl⟩ := map_one he1
  exact rput_blocks b y1 s1' (lift_52 e1).2 s1 s2 v w0 w R h1 h2 hd hr
 ·exact absurd rfl h105
end Go.Proofs.YtgkelbdgdhkeoaaGreat
