/- message.with, walked. (Printed by mk32.py.) -/
import Derived.Test.YtgkelbdgdhkeoaaGreatPMsg31
import Derived.Test.YtgkelbdgdhkeoaaGreatPWA
namespace Go.Proofs.YtgkelbdgdhkeoaaGreat
open Go.RowKit
set_option linter.unusedVariables false
set_option linter.unusedSimpArgs false
open Wire Cmd
theorem stL_all (x : St0) : (stL x).toArray.all (·.oneCell') = true := by simp [stL, Value.oneCell']
theorem na_all (a b : Nat) : (([.int .u64 (a : Int), .int .u64 (b : Int)] : List Value)).toArray.all (·.oneCell') = true := by simp [Value.oneCell']
theorem FinW.there {w X : World} {B : Nat} {b : Ms0} {t1 t2 : Value} (h : FinW w X B b t1 t2) {o n : Nat} (hn : o + n ≤ 290) : X.there w.heap.size o n := there_mid (N := 290) h.bx (by rw [List.size_toArray]; exact msL_len h.hd) hn
theorem FinW.cellT {w X : World} {B : Nat} {b : Ms0} {t1 t2 : Value} (h : FinW w X B b t1 t2) {o : Nat} (ho : o < 290) : ∃ u, X.cell? ⟨w.heap.size, o, none⟩ = some u := by
 have := (h.there (o := o) (n := 1) (by omega) 0 (by omega)).1
 exact Option.isSome_iff_exists.1 this
set_option maxRecDepth 100000 in
set_option maxHeartbeats 6400000 in
theorem with_lead (b : Ms0) (y : Bool) (s1 s2 v : Value) (w : World) (R B : Nat) (h1 : w.ownsRow B 5 1 s1 b.op.data.length (bV b.op.data)) (h2 : w.ownsRow B 5 1 s2 b.item.op.data.length (bV b.item.op.data)) (hd : b.item.data.length = 256) (hown : w.ownsRow R 20 1 v 1 [.iface 4 (.bool y)]) :
  Calls Tryz.prog 40 #[.agg (msL b s1 s2).toArray, .int .i32 108, v] w (WithP B w { b with lead := y } ) := by
 obtain ⟨g, cap, rfl, hgl, _, hnc, hcm, hcell⟩ := own_cells hown (by omega)
 have HC := Lib.hid (fun (X : World) (hX : Below w.heap.size w X) (j : Nat) (x : Value) hj => (hX.cell (p := ⟨g, j, none⟩) hgl).trans (hcell j x hj))
 have HF0 := Lib.hid (FinW.new h1 h2 hd)
 obtain ⟨AL, hAL⟩ : ∃ L, msL b s1 s2 = L := ⟨_, rfl⟩
 obtain ⟨W1, hW1⟩ : ∃ W, (w.alloc (.cells AL.toArray 80)).alloc (.cells Tryz.zeroCells80 80) = W := ⟨_, rfl⟩
 have HO := Lib.hid (And.intro h1 h2)
 have HD := Lib.hid hd
 rw [hAL, hW1] at HF0
 rw [hAL]
 have HGL := Lib.hid hgl
 clear hcell hown hgl h1 h2 hd hAL
 have HX : Hid (FinW w (W1.setCell ⟨w.heap.size, 8, none⟩ (.bool y)) B { b with lead := y } s1 s2) := Lib.hid (HF0.out.put (b' := { b with lead := y }) (Y := [.bool y]) (msL_lead b s1 s2) rfl rfl (msL_lead { b with lead := y } s1 s2) (ownsRow_below HO.out.1 HF0.out.below) (ownsRow_below HO.out.2 HF0.out.below) HD.out)
 have x0 := HC.out W1 HF0.out.below 0 _ rfl
 obtain ⟨t0, ht0⟩ := HF0.out.cellT (o := 8) (by omega)
 have hfz : ∀ i, W1.frozen? ⟨w.heap.size, i, none⟩ = false := fun i => frozenOf HF0.out.bx i
 have asF : ∀ (v : Value) (T : TypeId) (W : World), (Instr.typeAssert (.iface 4 v) T 4 true).run Tryz.prog W = .ok (.tuple #[v, .bool true]) W := fun v T W => run_assert_hit Tryz.underlying4 rfl v W
 obtain ⟨IL, hIL, hil, hone, hrc, hth, hth2, hii, hij, hfin⟩ := HX.out.fin
 have HRC := Lib.hid hrc
 have HTH := Lib.hid hth
 have HTH2 := Lib.hid hth2
 have HII := Lib.hid hii
 have HIJ := Lib.hid hij
 have HON := Lib.hid (And.intro hil hone)
 have HFIN := Lib.hid hfin
 clear hIL hil hone hrc hth hth2 hii hij hfin
 go_enter Tryz.func40, Tryz.ntmps40
 go_upto_region 21 with (first
  | (go_at_call 37; refine (number_any _ _).mono ?_; rintro e wx ⟨rfl, rfl⟩))
 clear ht0 hfz hW1
 clear x0
 go_wp2_with (first
  | (refine wpList_load_mid rfl 80 _ rfl w.heap.size 0 rfl IL _ HRC.out Tryz.underlying80 rfl HII.out ?_)
  | (refine wpList_store_mid rfl 80 _ _ rfl (w.heap.size + 1) 0 IL.toArray rfl rfl HTH2.out HIJ.out HON.out.2 ?_))
 exact bodyPost_ret (v := .agg IL.toArray) (resM rfl _ _ _ rfl HON.out.1 HTH.out) rfl HFIN.out
set_option maxRecDepth 100000 in
set_option maxHeartbeats 6400000 in
theorem with_num (b : Ms0) (n : Nat) (s1 s2 v : Value) (w : World) (R B : Nat) (h1 : w.ownsRow B 5 1 s1 b.op.data.length (bV b.op.data)) (h2 : w.ownsRow B 5 1 s2 b.item.op.data.length (bV b.item.op.data)) (hd : b.item.data.length = 256) (hown : w.ownsRow R 20 1 v 1 [.iface 41 (.int .u64 (n : Int))]) :
  Calls Tryz.prog 40 #[.agg (msL b s1 s2).toArray, .int .i32 110, v] w (WithP B w { b with num := n } ) := by
 obtain ⟨g, cap, rfl, hgl, _, hnc, hcm, hcell⟩ := own_cells hown (by omega)
 have HC := Lib.hid (fun (X : World) (hX : Below w.heap.size w X) (j : Nat) (x : Value) hj => (hX.cell (p := ⟨g, j, none⟩) hgl).trans (hcell j x hj))
 have HF0 := Lib.hid (FinW.new h1 h2 hd)
 obtain ⟨AL, hAL⟩ : ∃ L, msL b s1 s2 = L := ⟨_, rfl⟩
 obtain ⟨W1, hW1⟩ : ∃ W, (w.alloc (.cells AL.toArray 80)).alloc (.cells Tryz.zeroCells80 80) = W := ⟨_, rfl⟩
 have HO := Lib.hid (And.intro h1 h2)
 have HD := Lib.hid hd
 rw [hAL, hW1] at HF0
 rw [hAL]
 have HGL := Lib.hid hgl
 clear hcell hown hgl h1 h2 hd hAL
 have HX : Hid (FinW w (W1.setCell ⟨w.heap.size, 18, none⟩ (.int .u64 (n : Int))) B { b with num := n } s1 s2) := Lib.hid (HF0.out.put (b' := { b with num := n }) (Y := [.int .u64 (n : Int)]) (msL_num b s1 s2) rfl rfl (msL_num { b with num := n } s1 s2) (ownsRow_below HO.out.1 HF0.out.below) (ownsRow_below HO.out.2 HF0.out.below) HD.out)
 have x0 := HC.out W1 HF0.out.below 0 _ rfl
 obtain ⟨t0, ht0⟩ := HF0.out.cellT (o := 18) (by omega)
 have hfz : ∀ i, W1.frozen? ⟨w.heap.size, i, none⟩ = false := fun i => frozenOf HF0.out.bx i
 obtain ⟨IL, hIL, hil, hone, hrc, hth, hth2, hii, hij, hfin⟩ := HX.out.fin
 have HRC := Lib.hid hrc
 have HTH := Lib.hid hth
 have HTH2 := Lib.hid hth2
 have HII := Lib.hid hii
 have HIJ := Lib.hid hij
 have HON := Lib.hid (And.intro hil hone)
 have HFIN := Lib.hid hfin
 clear hIL hil hone hrc hth hth2 hii hij hfin
 go_enter Tryz.func40, Tryz.ntmps40
 go_upto_region 21 with (first
  | (go_at_call 37; refine (number_any _ _).mono ?_; rintro e wx ⟨rfl, rfl⟩))
 clear ht0 hfz hW1
 clear x0
 go_wp2_with (first
  | (refine wpList_load_mid rfl 80 _ rfl w.heap.size 0 rfl IL _ HRC.out Tryz.underlying80 rfl HII.out ?_)
  | (refine wpList_store_mid rfl 80 _ _ rfl (w.heap.size + 1) 0 IL.toArray rfl rfl HTH2.out HIJ.out HON.out.2 ?_))
 exact bodyPost_ret (v := .agg IL.toArray) (resM rfl _ _ _ rfl HON.out.1 HTH.out) rfl HFIN.out
set_option maxRecDepth 100000 in
set_option maxHeartbeats 6400000 in
theorem with_seq (b : Ms0) (n : Nat) (s1 s2 v : Value) (w : World) (R B : Nat) (h1 : w.ownsRow B 5 1 s1 b.op.data.length (bV b.op.data)) (h2 : w.ownsRow B 5 1 s2 b.item.op.data.length (bV b.item.op.data)) (hd : b.item.data.length = 256) (hown : w.ownsRow R 20 1 v 1 [.iface 41 (.int .u64 (n : Int))]) :
  Calls Tryz.prog 40 #[.agg (msL b s1 s2).toArray, .int .i32 115, v] w (WithP B w { b with seq := n } ) := by
 obtain ⟨g, cap, rfl, hgl, _, hnc, hcm, hcell⟩ := own_cells hown (by omega)
 have HC := Lib.hid (fun (X : World) (hX : Below w.heap.size w X) (j : Nat) (x : Value) hj => (hX.cell (p := ⟨g, j, none⟩) hgl).trans (hcell j x hj))
 have HF0 := Lib.hid (FinW.new h1 h2 hd)
 obtain ⟨AL, hAL⟩ : ∃ L, msL b s1 s2 = L := ⟨_, rfl⟩
 obtain ⟨W1, hW1⟩ : ∃ W, (w.alloc (.cells AL.toArray 80)).alloc (.cells Tryz.zeroCells80 80) = W := ⟨_, rfl⟩
 have HO := Lib.hid (And.intro h1 h2)
 have HD := Lib.hid hd
 rw [hAL, hW1] at HF0
 rw [hAL]
 have HGL := Lib.hid hgl
 clear hcell hown hgl h1 h2 hd hAL
 have HX : Hid (FinW w (W1.setCell ⟨w.heap.size, 9, none⟩ (.int .u64 (n : Int))) B { b with seq := n } s1 s2) := Lib.hid (HF0.out.put (b' := { b with seq := n }) (Y := [.int .u64 (n : Int)]) (msL_seq b s1 s2) rfl rfl (msL_seq { b with seq := n } s1 s2) (ownsRow_below HO.out.1 HF0.out.below) (ownsRow_below HO.out.2 HF0.out.below) HD.out)
 have x0 := HC.out W1 HF0.out.below 0 _ rfl
 obtain ⟨t0, ht0⟩ := HF0.out.cellT (o := 9) (by omega)
 have hfz : ∀ i, W1.frozen? ⟨w.heap.size, i, none⟩ = false := fun i => frozenOf HF0.out.bx i
 obtain ⟨IL, hIL, hil, hone, hrc, hth, hth2, hii, hij, hfin⟩ := HX.out.fin
 have HRC := Lib.hid hrc
 have HTH := Lib.hid hth
 have HTH2 := Lib.hid hth2
 have HII := Lib.hid hii
 have HIJ := Lib.hid hij
 have HON := Lib.hid (And.intro hil hone)
 have HFIN := Lib.hid hfin
 clear hIL hil hone hrc hth hth2 hii hij hfin
 go_enter Tryz.func40, Tryz.ntmps40
 go_upto_region 21 with (first
  | (go_at_call 37; refine (number_any _ _).mono ?_; rintro e wx ⟨rfl, rfl⟩))
 clear ht0 hfz hW1
 clear x0
 go_wp2_with (first
  | (refine wpList_load_mid rfl 80 _ rfl w.heap.size 0 rfl IL _ HRC.out Tryz.underlying80 rfl HII.out ?_)
  | (refine wpList_store_mid rfl 80 _ _ rfl (w.heap.size + 1) 0 IL.toArray rfl rfl HTH2.out HIJ.out HON.out.2 ?_))
 exact bodyPost_ret (v := .agg IL.toArray) (resM rfl _ _ _ rfl HON.out.1 HTH.out) rfl HFIN.out
set_option maxRecDepth 100000 in
set_option maxHeartbeats 6400000 in
theorem with_fro (b : Ms0) (n : Nat) (hn : n < 4294967296) (s1 s2 v : Value) (w : World) (R B : Nat) (h1 : w.ownsRow B 5 1 s1 b.op.data.length (bV b.op.data)) (h2 : w.ownsRow B 5 1 s2 b.item.op.data.length (bV b.item.op.data)) (hd : b.item.data.length = 256) (hown : w.ownsRow R 20 1 v 1 [.iface 41 (.int .u64 (n : Int))]) :
  Calls Tryz.prog 40 #[.agg (msL b s1 s2).toArray, .int .i32 102, v] w (WithP B w { b with fro := (n : Int) } ) := by
 obtain ⟨g, cap, rfl, hgl, _, hnc, hcm, hcell⟩ := own_cells hown (by omega)
 have HC := Lib.hid (fun (X : World) (hX : Below w.heap.size w X) (j : Nat) (x : Value) hj => (hX.cell (p := ⟨g, j, none⟩) hgl).trans (hcell j x hj))
 have HF0 := Lib.hid (FinW.new h1 h2 hd)
 obtain ⟨AL, hAL⟩ : ∃ L, msL b s1 s2 = L := ⟨_, rfl⟩
 obtain ⟨W1, hW1⟩ : ∃ W, (w.alloc (.cells AL.toArray 80)).alloc (.cells Tryz.zeroCells80 80) = W := ⟨_, rfl⟩
 have HO := Lib.hid (And.intro h1 h2)
 have HD := Lib.hid hd
 rw [hAL, hW1] at HF0
 rw [hAL]
 have HGL := Lib.hid hgl
 clear hcell hown hgl h1 h2 hd hAL
 have HX : Hid (FinW w (W1.setCell ⟨w.heap.size, 19, none⟩ (.int .i64 (n : Int))) B { b with fro := (n : Int) } s1 s2) := Lib.hid (HF0.out.put (b' := { b with fro := (n : Int) }) (Y := [.int .i64 (n : Int)]) (msL_fro b s1 s2) rfl rfl (msL_fro { b with fro := (n : Int) } s1 s2) (ownsRow_below HO.out.1 HF0.out.below) (ownsRow_below HO.out.2 HF0.out.below) HD.out)
 have x0 := HC.out W1 HF0.out.below 0 _ rfl
 obtain ⟨t0, ht0⟩ := HF0.out.cellT (o := 19) (by omega)
 have hfz : ∀ i, W1.frozen? ⟨w.heap.size, i, none⟩ = false := fun i => frozenOf HF0.out.bx i
 have hwr : IntKind.i64.wrap (n : Int) = (n : Int) := IntWalk.i64_in _ (by omega)
 obtain ⟨IL, hIL, hil, hone, hrc, hth, hth2, hii, hij, hfin⟩ := HX.out.fin
 have HRC := Lib.hid hrc
 have HTH := Lib.hid hth
 have HTH2 := Lib.hid hth2
 have HII := Lib.hid hii
 have HIJ := Lib.hid hij
 have HON := Lib.hid (And.intro hil hone)
 have HFIN := Lib.hid hfin
 clear hIL hil hone hrc hth hth2 hii hij hfin
 go_enter Tryz.func40, Tryz.ntmps40
 go_upto_region 21 with (first
  | (go_at_call 37; refine (number_any _ _).mono ?_; rintro e wx ⟨rfl, rfl⟩))
 clear ht0 hfz hW1
 clear x0
 go_wp2_with (first
  | (refine wpList_load_mid rfl 80 _ rfl w.heap.size 0 rfl IL _ HRC.out Tryz.underlying80 rfl HII.out ?_)
  | (refine wpList_store_mid rfl 80 _ _ rfl (w.heap.size + 1) 0 IL.toArray rfl rfl HTH2.out HIJ.out HON.out.2 ?_))
 exact bodyPost_ret (v := .agg IL.toArray) (resM rfl _ _ _ rfl HON.out.1 HTH.out) rfl HFIN.out
set_option maxRecDepth 100000 in
set_option maxHeartbeats 6400000 in
theorem with_blocks (b : Ms0) (n : Nat) (hn : n < 4294967296) (s1 s2 v : Value) (w : World) (R B : Nat) (h1 : w.ownsRow B 5 1 s1 b.op.data.length (bV b.op.data)) (h2 : w.ownsRow B 5 1 s2 b.item.op.data.length (bV b.item.op.data)) (hd : b.item.data.length = 256) (hown : w.ownsRow R 20 1 v 1 [.iface 41 (.int .u64 (n : Int))]) :
  Calls Tryz.prog 40 #[.agg (msL b s1 s2).toArray, .int .i32 98, v] w (WithP B w { b with blocks := (n : Int) } ) := by
 obtain ⟨g, cap, rfl, hgl, _, hnc, hcm, hcell⟩ := own_cells hown (by omega)
 have HC := Lib.hid (fun (X : World) (hX : Below w.heap.size w X) (j : Nat) (x : Value) hj => (hX.cell (p := ⟨g, j, none⟩) hgl).trans (hcell j x hj))
 have HF0 := Lib.hid (FinW.new h1 h2 hd)
 obtain ⟨AL, hAL⟩ : ∃ L, msL b s1 s2 = L := ⟨_, rfl⟩
 obtain ⟨W1, hW1⟩ : ∃ W, (w.alloc (.cells AL.toArray 80)).alloc (.cells Tryz.zeroCells80 80) = W := ⟨_, rfl⟩
 have HO := Lib.hid (And.intro h1 h2)
 have HD := Lib.hid hd
 rw [hAL, hW1] at HF0
 rw [hAL]
 have HGL := Lib.hid hgl
 clear hcell hown hgl h1 h2 hd hAL
 have HX : Hid (FinW w (W1.setCell ⟨w.heap.size, 17, none⟩ (.int .i64 (n : Int))) B { b with blocks := (n : Int) } s1 s2) := Lib.hid (HF0.out.put (b' := { b with blocks := (n : Int) }) (Y := [.int .i64 (n : Int)]) (msL_blocks b s1 s2) rfl rfl (msL_blocks { b with blocks := (n : Int) } s1 s2) (ownsRow_below HO.out.1 HF0.out.below) (ownsRow_below HO.out.2 HF0.out.below) HD.out)
 have x0 := HC.out W1 HF0.out.below 0 _ rfl
 obtain ⟨t0, ht0⟩ := HF0.out.cellT (o := 17) (by omega)
 have hfz : ∀ i, W1.frozen? ⟨w.heap.size, i, none⟩ = false := fun i => frozenOf HF0.out.bx i
 have hwr : IntKind.i64.wrap (n : Int) = (n : Int) := IntWalk.i64_in _ (by omega)
 obtain ⟨IL, hIL, hil, hone, hrc, hth, hth2, hii, hij, hfin⟩ := HX.out.fin
 have HRC := Lib.hid hrc
 have HTH := Lib.hid hth
 have HTH2 := Lib.hid hth2
 have HII := Lib.hid hii
 have HIJ := Lib.hid hij
 have HON := Lib.hid (And.intro hil hone)
 have HFIN := Lib.hid hfin
 clear hIL hil hone hrc hth hth2 hii hij hfin
 go_enter Tryz.func40, Tryz.ntmps40
 go_upto_region 21 with (first
  | (go_at_call 37; refine (number_any _ _).mono ?_; rintro e wx ⟨rfl, rfl⟩))
 clear ht0 hfz hW1
 clear x0
 go_wp2_with (first
  | (refine wpList_load_mid rfl 80 _ rfl w.heap.size 0 rfl IL _ HRC.out Tryz.underlying80 rfl HII.out ?_)
  | (refine wpList_store_mid rfl 80 _ _ rfl (w.heap.size + 1) 0 IL.toArray rfl rfl HTH2.out HIJ.out HON.out.2 ?_))
 exact bodyPost_ret (v := .agg IL.toArray) (resM rfl _ _ _ rfl HON.out.1 HTH.out) rfl HFIN.out
set_option maxRecDepth 100000 in
set_option maxHeartbeats 6400000 in
theorem with_name (b : Ms0) (p q : Nat) (s1 s2 v : Value) (w : World) (R B : Nat) (h1 : w.ownsRow B 5 1 s1 b.op.data.length (bV b.op.data)) (h2 : w.ownsRow B 5 1 s2 b.item.op.data.length (bV b.item.op.data)) (hd : b.item.data.length = 256) (hown : w.ownsRow R 20 1 v 2 [.iface 41 (.int .u64 (p : Int)), .iface 41 (.int .u64 (q : Int))]) :
  Calls Tryz.prog 40 #[.agg (msL b s1 s2).toArray, .int .i32 109, v] w (WithP B w { b with ne := p, ns := q } ) := by
 obtain ⟨g, cap, rfl, hgl, _, hnc, hcm, hcell⟩ := own_cells hown (by omega)
 have HC := Lib.hid (fun (X : World) (hX : Below w.heap.size w X) (j : Nat) (x : Value) hj => (hX.cell (p := ⟨g, j, none⟩) hgl).trans (hcell j x hj))
 have HF0 := Lib.hid (FinW.new h1 h2 hd)
 obtain ⟨AL, hAL⟩ : ∃ L, msL b s1 s2 = L := ⟨_, rfl⟩
 obtain ⟨W1, hW1⟩ : ∃ W, (w.alloc (.cells AL.toArray 80)).alloc (.cells Tryz.zeroCells80 80) = W := ⟨_, rfl⟩
 have HO := Lib.hid (And.intro h1 h2)
 have HD := Lib.hid hd
 rw [hAL, hW1] at HF0
 rw [hAL]
 have HGL := Lib.hid hgl
 clear hcell hown hgl h1 h2 hd hAL
 have HX : Hid (FinW w (W1.drew.setCells w.heap.size 20 (([.int .u64 (p : Int), .int .u64 (q : Int)] : List Value))) B { b with ne := p, ns := q } s1 s2) := Lib.hid ((HF0.out.mono (Below.refl _ _).drew).put (b' := { b with ne := p, ns := q }) (Y := ([.int .u64 (p : Int), .int .u64 (q : Int)] : List Value)) (msL_name b s1 s2) rfl rfl (msL_name { b with ne := p, ns := q } s1 s2) (ownsRow_below HO.out.1 (HF0.out.mono (Below.refl _ _).drew).below) (ownsRow_below HO.out.2 (HF0.out.mono (Below.refl _ _).drew).below) HD.out)
 have HCE := Lib.hid (fun (X : World) (hX : Below w.heap.size w X) => And.intro (HC.out X hX 0 _ rfl) (HC.out X hX 1 _ rfl))
 have hth : W1.drew.there w.heap.size 20 (([.int .u64 (p : Int), .int .u64 (q : Int)] : List Value)).toArray.size := (HF0.out.mono (Below.refl _ _).drew).there (by show 20 + 2 ≤ 290; omega)
 have hin : (Tryz.prog.info? 73).map (·.size) = some (([.int .u64 (p : Int), .int .u64 (q : Int)] : List Value)).toArray.size := by show _ = some 2; exact infoNa
 have hal : (([.int .u64 (p : Int), .int .u64 (q : Int)] : List Value)).toArray.all (·.oneCell') = true := na_all p q
 obtain ⟨IL, hIL, hil, hone, hrc, hth, hth2, hii, hij, hfin⟩ := HX.out.fin
 have HRC := Lib.hid hrc
 have HTH := Lib.hid hth
 have HTH2 := Lib.hid hth2
 have HII := Lib.hid hii
 have HIJ := Lib.hid hij
 have HON := Lib.hid (And.intro hil hone)
 have HFIN := Lib.hid hfin
 clear hIL hil hone hrc hth hth2 hii hij hfin
 have HTT := Lib.hid (And.intro hth (And.intro hin hal))
 clear hth hin hal
 go_enter Tryz.func40, Tryz.ntmps40
 go_upto_region 14 with fail
 clear hW1
 have HS0 := HCE.out _ (HF0.out.mono (Below.refl _ _).drew).below
 refine wp_region_held_drew (S := fun X => X.cell? ⟨g, 0, none⟩ = some (.iface 41 (.int .u64 (p : Int))) ∧ X.cell? ⟨g, 1, none⟩ = some (.iface 41 (.int .u64 (q : Int)))) (by kernel_rfl) HS0 (fun hHeld => ?_)
 clear HS0
 refine wpAnyH_take (i := 0) (v := ?_) rfl (by kernel_rfl) (by kernel_rfl) (by kernel_rfl) (fun _ _ _ h => h) (Or.inl ⟨by rfl, ?_⟩) (by assumption) ?_
 rotate_left
 ·(intro w hSw; (try dsimp only at hSw); simp only [List.getElem_toArray, List.getElem_cons_zero, List.getElem_cons_succ]; go_simp; first | done | with_reducible rfl)
 simp only [List.getElem_toArray, List.getElem_cons_zero, List.getElem_cons_succ, Act.put, List.setIfInBounds_toArray, List.set_cons_zero, List.set_cons_succ]
 refine wpAnyH_take (i := 1) (v := ?_) rfl (by kernel_rfl) (by kernel_rfl) (by kernel_rfl) (fun _ _ _ h => h) (Or.inl ⟨by rfl, ?_⟩) (by assumption) ?_
 rotate_left
 ·(intro w hSw; (try dsimp only at hSw); simp only [List.getElem_toArray, List.getElem_cons_zero, List.getElem_cons_succ]; go_simp; first | done | with_reducible rfl)
 simp only [List.getElem_toArray, List.getElem_cons_zero, List.getElem_cons_succ, Act.put, List.setIfInBounds_toArray, List.set_cons_zero, List.set_cons_succ]
 refine wpAnyH_take (i := 2) (v := ?_) rfl (by kernel_rfl) (by kernel_rfl) (by kernel_rfl) (fun _ _ _ h => h) (Or.inl ⟨by rfl, ?_⟩) (by assumption) ?_
 rotate_left
 ·(intro w hSw; (try dsimp only at hSw); simp only [List.getElem_toArray, List.getElem_cons_zero, List.getElem_cons_succ]; go_simp; first | done | with_reducible rfl)
 simp only [List.getElem_toArray, List.getElem_cons_zero, List.getElem_cons_succ, Act.put, List.setIfInBounds_toArray, List.set_cons_zero, List.set_cons_succ]
 refine wpAnyH_take (i := 4) (v := ?_) rfl (by kernel_rfl) (by kernel_rfl) (by kernel_rfl) (fun _ _ _ h => h) (Or.inl ⟨by rfl, ?_⟩) (by assumption) ?_
 rotate_left
 ·(intro w hSw; (try dsimp only at hSw); simp only [List.getElem_toArray, List.getElem_cons_zero, List.getElem_cons_succ]; go_simp; first | done | with_reducible rfl)
 simp only [List.getElem_toArray, List.getElem_cons_zero, List.getElem_cons_succ, Act.put, List.setIfInBounds_toArray, List.set_cons_zero, List.set_cons_succ]
 refine wpAnyH_take (i := 5) (v := ?_) rfl (by kernel_rfl) (by kernel_rfl) (by kernel_rfl) (fun _ _ _ h => h) (Or.inl ⟨by rfl, ?_⟩) (by assumption) ?_
 rotate_left
 ·(intro w hSw; (try dsimp only at hSw); simp only [List.getElem_toArray, List.getElem_cons_zero, List.getElem_cons_succ]; go_simp; first | done | with_reducible rfl)
 simp only [List.getElem_toArray, List.getElem_cons_zero, List.getElem_cons_succ, Act.put, List.setIfInBounds_toArray, List.set_cons_zero, List.set_cons_succ]
 refine wpAnyH_take (i := 6) (v := ?_) rfl (by kernel_rfl) (by kernel_rfl) (by kernel_rfl) (fun _ _ _ h => h) (Or.inl ⟨by rfl, ?_⟩) (by assumption) ?_
 rotate_left
 ·(intro w hSw; (try dsimp only at hSw); simp only [List.getElem_toArray, List.getElem_cons_zero, List.getElem_cons_succ]; go_simp; first | done | with_reducible rfl)
 simp only [List.getElem_toArray, List.getElem_cons_zero, List.getElem_cons_succ, Act.put, List.setIfInBounds_toArray, List.set_cons_zero, List.set_cons_succ]
 refine wpAnyH_ready (rs := [3]) (by kernel_rfl) (by simp) ?_
 refine AllReadyH.cons rfl (fun K hK => ?_) AllReadyH.nil
 simp only [List.getElem_toArray, List.getElem_cons_zero, List.getElem_cons_succ]
 go_simp
 refine (number_any _ _).mono ?_
 rintro e wx ⟨rfl, rfl⟩
 dsimp only
 refine hK.out _ _ ?_ (fun hHeld => ?_)
 ·exact hHeld
 clear hK K
 try simp only [Act.put, List.setIfInBounds_toArray, List.set_cons_zero, List.set_cons_succ]
 refine wpAnyH_ready (rs := [7]) (by kernel_rfl) (by simp) ?_
 refine AllReadyH.cons rfl (fun K hK => ?_) AllReadyH.nil
 simp only [List.getElem_toArray, List.getElem_cons_zero, List.getElem_cons_succ]
 go_simp
 refine (number_any _ _).mono ?_
 rintro e wx ⟨rfl, rfl⟩
 dsimp only
 refine hK.out _ _ ?_ (fun hHeld => ?_)
 ·exact hHeld
 clear hK K
 try simp only [Act.put, List.setIfInBounds_toArray, List.set_cons_zero, List.set_cons_succ]
 refine wpAnyH_take (i := 8) (v := ?_) rfl (by kernel_rfl) (by kernel_rfl) (by kernel_rfl) (fun _ _ _ h => h) (Or.inl ⟨by rfl, ?_⟩) (by assumption) ?_
 rotate_left
 ·(intro w hSw; (try dsimp only at hSw); simp only [List.getElem_toArray, List.getElem_cons_zero, List.getElem_cons_succ]; go_simp; first | done | with_reducible rfl)
 simp only [List.getElem_toArray, List.getElem_cons_zero, List.getElem_cons_succ, Act.put, List.setIfInBounds_toArray, List.set_cons_zero, List.set_cons_succ]
 refine wpAnyH_take (i := 9) (v := ?_) rfl (by kernel_rfl) (by kernel_rfl) (by kernel_rfl) (fun _ _ _ h => h) (Or.inl ⟨by rfl, ?_⟩) (by assumption) ?_
 rotate_left
 ·(intro w hSw; (try dsimp only at hSw); simp only [List.getElem_toArray, List.getElem_cons_zero, List.getElem_cons_succ]; go_simp; first | done | with_reducible rfl)
 simp only [List.getElem_toArray, List.getElem_cons_zero, List.getElem_cons_succ, Act.put, List.setIfInBounds_toArray, List.set_cons_zero, List.set_cons_succ]
 refine wpAnyH_ready (rs := [10]) (by kernel_rfl) (by simp) ?_
 refine AllReadyH.cons rfl (fun K hK => ?_) AllReadyH.nil
 simp only [List.getElem_toArray, List.getElem_cons_zero, List.getElem_cons_succ]
 rw [if_pos (by rfl)]
 refine wp_store_mid 73 _ _ rfl w.heap.size 20 (([.int .u64 (p : Int), .int .u64 (q : Int)] : List Value)).toArray rfl rfl HTT.out.1 HTT.out.2.1 HTT.out.2.2 ?_
 refine hK.out _ _ (HCE.out _ HX.out.below) (fun hHeld => ?_)
 clear hK K
 simp only [Act.put, List.setIfInBounds_toArray, List.set_cons_zero, List.set_cons_succ]
 refine wpAnyH_done (by kernel_rfl) ?_ _
 clear hHeld
 go_wp2_with (first
  | (refine wpList_load_mid rfl 80 _ rfl w.heap.size 0 rfl IL _ HRC.out Tryz.underlying80 rfl HII.out ?_)
  | (refine wpList_store_mid rfl 80 _ _ rfl (w.heap.size + 1) 0 IL.toArray rfl rfl HTH2.out HIJ.out HON.out.2 ?_))
 exact bodyPost_ret (v := .agg IL.toArray) (resM rfl _ _ _ rfl HON.out.1 HTH.out) rfl HFIN.out
set_option maxRecDepth 100000 in
set_option maxHeartbeats 6400000 in
theorem with_st (b : Ms0) (n1 n2 n3 n4 n5 : Nat) (y : Bool) (s1 s2 v : Value) (w : World) (R B : Nat) (h1 : w.ownsRow B 5 1 s1 b.op.data.length (bV b.op.data)) (h2 : w.ownsRow B 5 1 s2 b.item.op.data.length (bV b.item.op.data)) (hd : b.item.data.length = 256) (hown : w.ownsRow R 20 1 v 6 [.iface 41 (.int .u64 (n1 : Int)), .iface 41 (.int .u64 (n2 : Int)), .iface 41 (.int .u64 (n3 : Int)), .iface 41 (.int .u64 (n4 : Int)), .iface 41 (.int .u64 (n5 : Int)), .iface 4 (.bool y)]) :
  Calls Tryz.prog 40 #[.agg (msL b s1 s2).toArray, .int .i32 116, v] w (WithP B w { b with st := ⟨n1, n2, n3, n4, n5, y⟩ } ) := by
 obtain ⟨g, cap, rfl, hgl, _, hnc, hcm, hcell⟩ := own_cells hown (by omega)
 have HC := Lib.hid (fun (X : World) (hX : Below w.heap.size w X) (j : Nat) (x : Value) hj => (hX.cell (p := ⟨g, j, none⟩) hgl).trans (hcell j x hj))
 have HF0 := Lib.hid (FinW.new h1 h2 hd)
 obtain ⟨AL, hAL⟩ : ∃ L, msL b s1 s2 = L := ⟨_, rfl⟩
 obtain ⟨W1, hW1⟩ : ∃ W, (w.alloc (.cells AL.toArray 80)).alloc (.cells Tryz.zeroCells80 80) = W := ⟨_, rfl⟩
 have HO := Lib.hid (And.intro h1 h2)
 have HD := Lib.hid hd
 rw [hAL, hW1] at HF0
 rw [hAL]
 have HGL := Lib.hid hgl
 clear hcell hown hgl h1 h2 hd hAL
 have HX : Hid (FinW w (W1.drew.setCells w.heap.size 2 (stL ⟨n1, n2, n3, n4, n5, y⟩)) B { b with st := ⟨n1, n2, n3, n4, n5, y⟩ } s1 s2) := Lib.hid ((HF0.out.mono (Below.refl _ _).drew).put (b' := { b with st := ⟨n1, n2, n3, n4, n5, y⟩ }) (Y := stL ⟨n1, n2, n3, n4, n5, y⟩) (msL_st b s1 s2) rfl rfl (msL_st { b with st := ⟨n1, n2, n3, n4, n5, y⟩ } s1 s2) (ownsRow_below HO.out.1 (HF0.out.mono (Below.refl _ _).drew).below) (ownsRow_below HO.out.2 (HF0.out.mono (Below.refl _ _).drew).below) HD.out)
 have HCE := Lib.hid (fun (X : World) (hX : Below w.heap.size w X) => And.intro (HC.out X hX 0 _ rfl) (And.intro (HC.out X hX 1 _ rfl) (And.intro (HC.out X hX 2 _ rfl) (And.intro (HC.out X hX 3 _ rfl) (And.intro (HC.out X hX 4 _ rfl) (HC.out X hX 5 _ rfl))))))
 have hth : W1.drew.there w.heap.size 2 (stL ⟨n1, n2, n3, n4, n5, y⟩).toArray.size := (HF0.out.mono (Below.refl _ _).drew).there (by show 2 + 6 ≤ 290; omega)
 have hin : (Tryz.prog.info? 67).map (·.size) = some (stL ⟨n1, n2, n3, n4, n5, y⟩).toArray.size := by show _ = some 6; exact infoSt
 have hal : (stL ⟨n1, n2, n3, n4, n5, y⟩).toArray.all (·.oneCell') = true := stL_all _
 have asF : ∀ (v : Value) (T : TypeId) (W : World), (Instr.typeAssert (.iface 4 v) T 4 true).run Tryz.prog W = .ok (.tuple #[v, .bool true]) W := fun v T W => run_assert_hit Tryz.underlying4 rfl v W
 have x5 := HC.out W1 HF0.out.below 5 _ rfl
 obtain ⟨IL, hIL, hil, hone, hrc, hth, hth2, hii, hij, hfin⟩ := HX.out.fin
 have HRC := Lib.hid hrc
 have HTH := Lib.hid hth
 have HTH2 := Lib.hid hth2
 have HII := Lib.hid hii
 have HIJ := Lib.hid hij
 have HON := Lib.hid (And.intro hil hone)
 have HFIN := Lib.hid hfin
 clear hIL hil hone hrc hth hth2 hii hij hfin
 have HTT := Lib.hid (And.intro hth (And.intro hin hal))
 clear hth hin hal
 go_enter Tryz.func40, Tryz.ntmps40
 go_upto_region 4 with fail
 clear hW1 x5
 have HS0 := HCE.out _ (HF0.out.mono (Below.refl _ _).drew).below
 refine wp_region_held_drew (S := fun X => X.cell? ⟨g, 0, none⟩ = some (.iface 41 (.int .u64 (n1 : Int))) ∧ X.cell? ⟨g, 1, none⟩ = some (.iface 41 (.int .u64 (n2 : Int))) ∧ X.cell? ⟨g, 2, none⟩ = some (.iface 41 (.int .u64 (n3 : Int))) ∧ X.cell? ⟨g, 3, none⟩ = some (.iface 41 (.int .u64 (n4 : Int))) ∧ X.cell? ⟨g, 4, none⟩ = some (.iface 41 (.int .u64 (n5 : Int))) ∧ X.cell? ⟨g, 5, none⟩ = some (.iface 4 (.bool y))) (by kernel_rfl) HS0 (fun hHeld => ?_)
 clear HS0
 refine wpAnyH_take (i := 0) (v := ?_) rfl (by kernel_rfl) (by kernel_rfl) (by kernel_rfl) (fun _ _ _ h => h) (Or.inl ⟨by rfl, ?_⟩) (by assumption) ?_
 rotate_left
 ·(intro w hSw; (try dsimp only at hSw); simp only [List.getElem_toArray, List.getElem_cons_zero, List.getElem_cons_succ]; go_simp; first | done | with_reducible rfl)
 simp only [List.getElem_toArray, List.getElem_cons_zero, List.getElem_cons_succ, Act.put, List.setIfInBounds_toArray, List.set_cons_zero, List.set_cons_succ]
 refine wpAnyH_take (i := 1) (v := ?_) rfl (by kernel_rfl) (by kernel_rfl) (by kernel_rfl) (fun _ _ _ h => h) (Or.inl ⟨by rfl, ?_⟩) (by assumption) ?_
 rotate_left
 ·(intro w hSw; (try dsimp only at hSw); simp only [List.getElem_toArray, List.getElem_cons_zero, List.getElem_cons_succ]; go_simp; first | done | with_reducible rfl)
 simp only [List.getElem_toArray, List.getElem_cons_zero, List.getElem_cons_succ, Act.put, List.setIfInBounds_toArray, List.set_cons_zero, List.set_cons_succ]
 refine wpAnyH_take (i := 2) (v := ?_) rfl (by kernel_rfl) (by kernel_rfl) (by kernel_rfl) (fun _ _ _ h => h) (Or.inl ⟨by rfl, ?_⟩) (by assumption) ?_
 rotate_left
 ·(intro w hSw; (try dsimp only at hSw); simp only [List.getElem_toArray, List.getElem_cons_zero, List.getElem_cons_succ]; go_simp; first | done | with_reducible rfl)
 simp only [List.getElem_toArray, List.getElem_cons_zero, List.getElem_cons_succ, Act.put, List.setIfInBounds_toArray, List.set_cons_zero, List.set_cons_succ]
 refine wpAnyH_take (i := 4) (v := ?_) rfl (by kernel_rfl) (by kernel_rfl) (by kernel_rfl) (fun _ _ _ h => h) (Or.inl ⟨by rfl, ?_⟩) (by assumption) ?_
 rotate_left
 ·(intro w hSw; (try dsimp only at hSw); simp only [List.getElem_toArray, List.getElem_cons_zero, List.getElem_cons_succ]; go_simp; first | done | with_reducible rfl)
 simp only [List.getElem_toArray, List.getElem_cons_zero, List.getElem_cons_succ, Act.put, List.setIfInBounds_toArray, List.set_cons_zero, List.set_cons_succ]
 refine wpAnyH_take (i := 5) (v := ?_) rfl (by kernel_rfl) (by kernel_rfl) (by kernel_rfl) (fun _ _ _ h => h) (Or.inl ⟨by rfl, ?_⟩) (by assumption) ?_
 rotate_left
 ·(intro w hSw; (try dsimp only at hSw); simp only [List.getElem_toArray, List.getElem_cons_zero, List.getElem_cons_succ]; go_simp; first | done | with_reducible rfl)
 simp only [List.getElem_toArray, List.getElem_cons_zero, List.getElem_cons_succ, Act.put, List.setIfInBounds_toArray, List.set_cons_zero, List.set_cons_succ]
 refine wpAnyH_take (i := 6) (v := ?_) rfl (by kernel_rfl) (by kernel_rfl) (by kernel_rfl) (fun _ _ _ h => h) (Or.inl ⟨by rfl, ?_⟩) (by assumption) ?_
 rotate_left
 ·(intro w hSw; (try dsimp only at hSw); simp only [List.getElem_toArray, List.getElem_cons_zero, List.getElem_cons_succ]; go_simp; first | done | with_reducible rfl)
 simp only [List.getElem_toArray, List.getElem_cons_zero, List.getElem_cons_succ, Act.put, List.setIfInBounds_toArray, List.set_cons_zero, List.set_cons_succ]
 refine wpAnyH_take (i := 8) (v := ?_) rfl (by kernel_rfl) (by kernel_rfl) (by kernel_rfl) (fun _ _ _ h => h) (Or.inl ⟨by rfl, ?_⟩) (by assumption) ?_
 rotate_left
 ·(intro w hSw; (try dsimp only at hSw); simp only [List.getElem_toArray, List.getElem_cons_zero, List.getElem_cons_succ]; go_simp; first | done | with_reducible rfl)
 simp only [List.getElem_toArray, List.getElem_cons_zero, List.getElem_cons_succ, Act.put, List.setIfInBounds_toArray, List.set_cons_zero, List.set_cons_succ]
 refine wpAnyH_take (i := 9) (v := ?_) rfl (by kernel_rfl) (by kernel_rfl) (by kernel_rfl) (fun _ _ _ h => h) (Or.inl ⟨by rfl, ?_⟩) (by assumption) ?_
 rotate_left
 ·(intro w hSw; (try dsimp only at hSw); simp only [List.getElem_toArray, List.getElem_cons_zero, List.getElem_cons_succ]; go_simp; first | done | with_reducible rfl)
 simp only [List.getElem_toArray, List.getElem_cons_zero, List.getElem_cons_succ, Act.put, List.setIfInBounds_toArray, List.set_cons_zero, List.set_cons_succ]
 refine wpAnyH_take (i := 10) (v := ?_) rfl (by kernel_rfl) (by kernel_rfl) (by kernel_rfl) (fun _ _ _ h => h) (Or.inl ⟨by rfl, ?_⟩) (by assumption) ?_
 rotate_left
 ·(intro w hSw; (try dsimp only at hSw); simp only [List.getElem_toArray, List.getElem_cons_zero, List.getElem_cons_succ]; go_simp; first | done | with_reducible rfl)
 simp only [List.getElem_toArray, List.getElem_cons_zero, List.getElem_cons_succ, Act.put, List.setIfInBounds_toArray, List.set_cons_zero, List.set_cons_succ]
 refine wpAnyH_take (i := 12) (v := ?_) rfl (by kernel_rfl) (by kernel_rfl) (by kernel_rfl) (fun _ _ _ h => h) (Or.inl ⟨by rfl, ?_⟩) (by assumption) ?_
 rotate_left
 ·(intro w hSw; (try dsimp only at hSw); simp only [List.getElem_toArray, List.getElem_cons_zero, List.getElem_cons_succ]; go_simp; first | done | with_reducible rfl)
 simp only [List.getElem_toArray, List.getElem_cons_zero, List.getElem_cons_succ, Act.put, List.setIfInBounds_toArray, List.set_cons_zero, List.set_cons_succ]
 refine wpAnyH_take (i := 13) (v := ?_) rfl (by kernel_rfl) (by kernel_rfl) (by kernel_rfl) (fun _ _ _ h => h) (Or.inl ⟨by rfl, ?_⟩) (by assumption) ?_
 rotate_left
 ·(intro w hSw; (try dsimp only at hSw); simp only [List.getElem_toArray, List.getElem_cons_zero, List.getElem_cons_succ]; go_simp; first | done | with_reducible rfl)
 simp only [List.getElem_toArray, List.getElem_cons_zero, List.getElem_cons_succ, Act.put, List.setIfInBounds_toArray, List.set_cons_zero, List.set_cons_succ]
 refine wpAnyH_take (i := 14) (v := ?_) rfl (by kernel_rfl) (by kernel_rfl) (by kernel_rfl) (fun _ _ _ h => h) (Or.inl ⟨by rfl, ?_⟩) (by assumption) ?_
 rotate_left
 ·(intro w hSw; (try dsimp only at hSw); simp only [List.getElem_toArray, List.getElem_cons_zero, List.getElem_cons_succ]; go_simp; first | done | with_reducible rfl)
 simp only [List.getElem_toArray, List.getElem_cons_zero, List.getElem_cons_succ, Act.put, List.setIfInBounds_toArray, List.set_cons_zero, List.set_cons_succ]
 refine wpAnyH_take (i := 16) (v := ?_) rfl (by kernel_rfl) (by kernel_rfl) (by kernel_rfl) (fun _ _ _ h => h) (Or.inl ⟨by rfl, ?_⟩) (by assumption) ?_
 rotate_left
 ·(intro w hSw; (try dsimp only at hSw); simp only [List.getElem_toArray, List.getElem_cons_zero, List.getElem_cons_succ]; go_simp; first | done | with_reducible rfl)
 simp only [List.getElem_toArray, List.getElem_cons_zero, List.getElem_cons_succ, Act.put, List.setIfInBounds_toArray, List.set_cons_zero, List.set_cons_succ]
 refine wpAnyH_take (i := 17) (v := ?_) rfl (by kernel_rfl) (by kernel_rfl) (by kernel_rfl) (fun _ _ _ h => h) (Or.inl ⟨by rfl, ?_⟩) (by assumption) ?_
 rotate_left
 ·(intro w hSw; (try dsimp only at hSw); simp only [List.getElem_toArray, List.getElem_cons_zero, List.getElem_cons_succ]; go_simp; first | done | with_reducible rfl)
 simp only [List.getElem_toArray, List.getElem_cons_zero, List.getElem_cons_succ, Act.put, List.setIfInBounds_toArray, List.set_cons_zero, List.set_cons_succ]
 refine wpAnyH_take (i := 18) (v := ?_) rfl (by kernel_rfl) (by kernel_rfl) (by kernel_rfl) (fun _ _ _ h => h) (Or.inl ⟨by rfl, ?_⟩) (by assumption) ?_
 rotate_left
 ·(intro w hSw; (try dsimp only at hSw); simp only [List.getElem_toArray, List.getElem_cons_zero, List.getElem_cons_succ]; go_simp; first | done | with_reducible rfl)
 simp only [List.getElem_toArray, List.getElem_cons_zero, List.getElem_cons_succ, Act.put, List.setIfInBounds_toArray, List.set_cons_zero, List.set_cons_succ]
 refine wpAnyH_take (i := 20) (v := ?_) rfl (by kernel_rfl) (by kernel_rfl) (by kernel_rfl) (fun _ _ _ h => h) (Or.inl ⟨by rfl, ?_⟩) (by assumption) ?_
 rotate_left
 ·(intro w hSw; (try dsimp only at hSw); simp only [List.getElem_toArray, List.getElem_cons_zero, List.getElem_cons_succ]; go_simp; first | done | with_reducible rfl)
 simp only [List.getElem_toArray, List.getElem_cons_zero, List.getElem_cons_succ, Act.put, List.setIfInBounds_toArray, List.set_cons_zero, List.set_cons_succ]
 refine wpAnyH_ready (rs := [3]) (by kernel_rfl) (by simp) ?_
 refine AllReadyH.cons rfl (fun K hK => ?_) AllReadyH.nil
 simp only [List.getElem_toArray, List.getElem_cons_zero, List.getElem_cons_succ]
 go_simp
 refine (number_any _ _).mono ?_
 rintro e wx ⟨rfl, rfl⟩
 dsimp only
 refine hK.out _ _ ?_ (fun hHeld => ?_)
 ·exact hHeld
 clear hK K
 try simp only [Act.put, List.setIfInBounds_toArray, List.set_cons_zero, List.set_cons_succ]
 refine wpAnyH_ready (rs := [7]) (by kernel_rfl) (by simp) ?_
 refine AllReadyH.cons rfl (fun K hK => ?_) AllReadyH.nil
 simp only [List.getElem_toArray, List.getElem_cons_zero, List.getElem_cons_succ]
 go_simp
 refine (number_any _ _).mono ?_
 rintro e wx ⟨rfl, rfl⟩
 dsimp only
 refine hK.out _ _ ?_ (fun hHeld => ?_)
 ·exact hHeld
 clear hK K
 try simp only [Act.put, List.setIfInBounds_toArray, List.set_cons_zero, List.set_cons_succ]
 refine wpAnyH_ready (rs := [11]) (by kernel_rfl) (by simp) ?_
 refine AllReadyH.cons rfl (fun K hK => ?_) AllReadyH.nil
 simp only [List.getElem_toArray, List.getElem_cons_zero, List.getElem_cons_succ]
 go_simp
 refine (number_any _ _).mono ?_
 rintro e wx ⟨rfl, rfl⟩
 dsimp only
 refine hK.out _ _ ?_ (fun hHeld => ?_)
 ·exact hHeld
 clear hK K
 try simp only [Act.put, List.setIfInBounds_toArray, List.set_cons_zero, List.set_cons_succ]
 refine wpAnyH_ready (rs := [15]) (by kernel_rfl) (by simp) ?_
 refine AllReadyH.cons rfl (fun K hK => ?_) AllReadyH.nil
 simp only [List.getElem_toArray, List.getElem_cons_zero, List.getElem_cons_succ]
 go_simp
 refine (number_any _ _).mono ?_
 rintro e wx ⟨rfl, rfl⟩
 dsimp only
 refine hK.out _ _ ?_ (fun hHeld => ?_)
 ·exact hHeld
 clear hK K
 try simp only [Act.put, List.setIfInBounds_toArray, List.set_cons_zero, List.set_cons_succ]
 refine wpAnyH_ready (rs := [19]) (by kernel_rfl) (by simp) ?_
 refine AllReadyH.cons rfl (fun K hK => ?_) AllReadyH.nil
 simp only [List.getElem_toArray, List.getElem_cons_zero, List.getElem_cons_succ]
 go_simp
 refine (number_any _ _).mono ?_
 rintro e wx ⟨rfl, rfl⟩
 dsimp only
 refine hK.out _ _ ?_ (fun hHeld => ?_)
 ·exact hHeld
 clear hK K
 try simp only [Act.put, List.setIfInBounds_toArray, List.set_cons_zero, List.set_cons_succ]
 refine wpAnyH_take (i := 21) (v := ?_) rfl (by kernel_rfl) (by kernel_rfl) (by kernel_rfl) (fun _ _ _ h => h) (Or.inl ⟨by rfl, ?_⟩) (by assumption) ?_
 rotate_left
 ·(intro w hSw; (try dsimp only at hSw); simp only [List.getElem_toArray, List.getElem_cons_zero, List.getElem_cons_succ]; go_simp; first | done | with_reducible rfl)
 simp only [List.getElem_toArray, List.getElem_cons_zero, List.getElem_cons_succ, Act.put, List.setIfInBounds_toArray, List.set_cons_zero, List.set_cons_succ]
 refine wpAnyH_take (i := 22) (v := ?_) rfl (by kernel_rfl) (by kernel_rfl) (by kernel_rfl) (fun _ _ _ h => h) (Or.inl ⟨by rfl, ?_⟩) (by assumption) ?_
 rotate_left
 ·(intro w hSw; (try dsimp only at hSw); simp only [List.getElem_toArray, List.getElem_cons_zero, List.getElem_cons_succ]; go_simp; first | done | with_reducible rfl)
 simp only [List.getElem_toArray, List.getElem_cons_zero, List.getElem_cons_succ, Act.put, List.setIfInBounds_toArray, List.set_cons_zero, List.set_cons_succ]
 refine wpAnyH_ready (rs := [23]) (by kernel_rfl) (by simp) ?_
 refine AllReadyH.cons rfl (fun K hK => ?_) AllReadyH.nil
 simp only [List.getElem_toArray, List.getElem_cons_zero, List.getElem_cons_succ]
 rw [if_pos (by rfl)]
 refine wp_store_mid 67 _ _ rfl w.heap.size 2 (stL ⟨n1, n2, n3, n4, n5, y⟩).toArray rfl rfl HTT.out.1 HTT.out.2.1 HTT.out.2.2 ?_
 refine hK.out _ _ (HCE.out _ HX.out.below) (fun hHeld => ?_)
 clear hK K
 simp only [Act.put, List.setIfInBounds_toArray, List.set_cons_zero, List.set_cons_succ]
 refine wpAnyH_done (by kernel_rfl) ?_ _
 clear hHeld
 go_wp2_with (first
  | (refine wpList_load_mid rfl 80 _ rfl w.heap.size 0 rfl IL _ HRC.out Tryz.underlying80 rfl HII.out ?_)
  | (refine wpList_store_mid rfl 80 _ _ rfl (w.heap.size + 1) 0 IL.toArray rfl rfl HTH2.out HIJ.out HON.out.2 ?_))
 exact bodyPost_ret (v := .agg IL.toArray) (resM rfl _ _ _ rfl HON.out.1 HTH.out) rfl HFIN.out
set_option maxRecDepth 100000 in
set_option maxHeartbeats 6400000 in
theorem with_op (b : Ms0) (x : List UInt8) (hxl : x.length ≤ 1000000) (sl : Value) (B2 : Nat) (s1 s2 v : Value) (w : World) (R B : Nat) (hB : B ≤ w.heap.size) (hsl : w.ownsRow B2 5 1 sl x.length (bV x)) (h1 : w.ownsRow B 5 1 s1 b.op.data.length (bV b.op.data)) (h2 : w.ownsRow B 5 1 s2 b.item.op.data.length (bV b.item.op.data)) (hd : b.item.data.length = 256) (hown : w.ownsRow R 20 1 v 1 [.iface 34 sl]) :
  Calls Tryz.prog 40 #[.agg (msL b s1 s2).toArray, .int .i32 111, v] w (WithP B w { b with op := oO (ofO x) } ) := by
 obtain ⟨g, cap, rfl, hgl, _, hnc, hcm, hcell⟩ := own_cells hown (by omega)
 have HC := Lib.hid (fun (X : World) (hX : Below w.heap.size w X) (j : Nat) (x : Value) hj => (hX.cell (p := ⟨g, j, none⟩) hgl).trans (hcell j x hj))
 have HF0 := Lib.hid (FinW.new h1 h2 hd)
 obtain ⟨AL, hAL⟩ : ∃ L, msL b s1 s2 = L := ⟨_, rfl⟩
 obtain ⟨W1, hW1⟩ : ∃ W, (w.alloc (.cells AL.toArray 80)).alloc (.cells Tryz.zeroCells80 80) = W := ⟨_, rfl⟩
 have HO := Lib.hid (And.intro h1 h2)
 have HD := Lib.hid hd
 rw [hAL, hW1] at HF0
 rw [hAL]
 have HGL := Lib.hid hgl
 clear hcell hown hgl h1 h2 hd hAL
 obtain ⟨aox, capx, rfl, hrx⟩ : ∃ ao cap, sl = .slice ao x.length cap ∧ True := by obtain ⟨ao, cap, h, _⟩ := Rd.of_own hsl; exact ⟨ao, cap, h, trivial⟩
 have CO := Lib.hid (ofO_own x (.slice aox x.length capx) W1 ((Rd.of_own hsl).below HF0.out.below) hxl)
 have x0 := HC.out W1 HF0.out.below 0 _ rfl
 have HSZ : Hid (w.heap.size ≤ W1.heap.size) := Lib.hid HF0.out.below.size
 clear hsl hxl hrx
 go_enter Tryz.func40, Tryz.ntmps40
 go_upto_region 16 with fail
 clear hW1
 go_wp2_with (go_at_call 60; refine (bytesV_any _ _ _ _).mono ?_; rintro e wx ⟨rfl, rfl⟩)
 refine CO.out.mono ?_
 rintro e w2 ⟨hb2, sl', rfl, ho2⟩
 have HF2 := Lib.hid (HF0.out.mono hb2)
 have hone : sl'.oneCell' = true := oneOwn ho2
 have HX : Hid (FinW w (w2.setCells w.heap.size 10 (opL (oO (ofO x)) sl')) B { b with op := oO (ofO x) } sl' s2) := Lib.hid (HF2.out.put (b' := { b with op := oO (ofO x) }) (Y := opL (oO (ofO x)) sl') (msL_op b s1 s2) rfl rfl (msL_op { b with op := oO (ofO x) } sl' s2) (ownsRow_base ho2 (Nat.le_trans hB HSZ.out)) HF2.out.o2 HD.out)
 obtain ⟨Y, hY, hyl, hyo⟩ : ∃ Y : List Value, opL (oO (ofO x)) sl' = Y ∧ Y.length = 7 ∧ Y.toArray.all (·.oneCell') = true := ⟨_, rfl, rfl, all_oneL (opL_one hone)⟩
 have hY2 : oC (oO (ofO x)) sl' = Y.toArray := by rw [← hY]; rfl
 rw [hY] at HX
 rw [hY2]
 have HT2 : Hid (w2.there w.heap.size 10 Y.toArray.size) := Lib.hid (HF2.out.there (by rw [List.size_toArray, hyl]; omega))
 have HY2 : Hid ((Tryz.prog.info? 70).map (·.size) = some Y.toArray.size) := Lib.hid (by rw [List.size_toArray, hyl]; exact infoOp)
 have HYO := Lib.hid hyo
 clear hY hY2 hyl hyo hb2 ho2 hone CO x0
 obtain ⟨IL, hIL, hil, hone, hrc, hth, hth2, hii, hij, hfin⟩ := HX.out.fin
 have HRC := Lib.hid hrc
 have HTH := Lib.hid hth
 have HTH2 := Lib.hid hth2
 have HII := Lib.hid hii
 have HIJ := Lib.hid hij
 have HON := Lib.hid (And.intro hil hone)
 have HFIN := Lib.hid hfin
 clear hIL hil hone hrc hth hth2 hii hij hfin
 go_upto_region 21 with (first
  | (refine wpList_store_mid rfl 70 _ _ rfl w.heap.size 10 Y.toArray rfl rfl HT2.out HY2.out HYO.out ?_))
 go_wp2_with (first
  | (refine wpList_load_mid rfl 80 _ rfl w.heap.size 0 rfl IL _ HRC.out Tryz.underlying80 rfl HII.out ?_)
  | (refine wpList_store_mid rfl 80 _ _ rfl (w.heap.size + 1) 0 IL.toArray rfl rfl HTH2.out HIJ.out HON.out.2 ?_))
 exact bodyPost_ret (v := .agg IL.toArray) (resM rfl _ _ _ rfl HON.out.1 HTH.out) rfl HFIN.out
set_option maxRecDepth 100000 in
set_option maxHeartbeats 6400000 in
theorem with_item (b : Ms0) {bs : List UInt8} {l : List V} {n : Nat} (hu : unpack (shapeI ((bs.headD 0).toNat : Int)) bs = some (l, n)) (hbl : bs.length ≤ 1000000) (hgd : (getI l).data.length = 256) (s1 s2 v : Value) (w : World) (R B : Nat) (hB : B ≤ w.heap.size) (h1 : w.ownsRow B 5 1 s1 b.op.data.length (bV b.op.data)) (h2 : w.ownsRow B 5 1 s2 b.item.op.data.length (bV b.item.op.data)) (hd : b.item.data.length = 256) (hr : RowV R w v l) :
  Calls Tryz.prog 40 #[.agg (msL b s1 s2).toArray, .int .i32 105, v] w (WithP B w { b with item := getI l } ) := by
 have HF0 := Lib.hid (FinW.new h1 h2 hd)
 obtain ⟨AL, hAL⟩ : ∃ L, msL b s1 s2 = L := ⟨_, rfl⟩
 obtain ⟨W1, hW1⟩ : ∃ W, (w.alloc (.cells AL.toArray 80)).alloc (.cells Tryz.zeroCells80 80) = W := ⟨_, rfl⟩
 have HD := Lib.hid hd
 rw [hAL, hW1] at HF0
 rw [hAL]
 obtain ⟨ao, cap, hv, _⟩ : ∃ ao cap, v = .slice ao l.length cap ∧ True := by obtain ⟨xs, ho, _⟩ := hr; obtain ⟨ao, cap, h, _⟩ := Rd.of_own ho; exact ⟨ao, cap, h, trivial⟩
 have CI := Lib.hid (itemOf_any hu hbl v W1 R (hr.below HF0.out.below))
 have HGD := Lib.hid hgd
 have HSZ : Hid (w.heap.size ≤ W1.heap.size) := Lib.hid HF0.out.below.size
 generalize getI l = it at *
 subst hv
 clear hu hr hgd hbl h1 h2 hd hAL
 go_enter Tryz.func40, Tryz.ntmps40
 go_upto_region 20 with fail
 clear hW1
 go_wp2_with fail
 refine CI.out.mono ?_
 rintro e w2 ⟨hb2, sl', rfl, ho2⟩
 have HF2 := Lib.hid (HF0.out.mono hb2)
 have hone : sl'.oneCell' = true := oneOwn ho2
 have HX : Hid (FinW w (w2.setCells w.heap.size 22 (itL it sl')) B { b with item := it } s1 sl') := Lib.hid (HF2.out.put (b' := { b with item := it }) (Y := itL it sl') (msL_item b s1 s2) rfl (by rw [itL_len HD.out, itL_len HGD.out]) (msL_item { b with item := it } s1 sl') HF2.out.o1 (ownsRow_base ho2 (Nat.le_trans hB HSZ.out)) HGD.out)
 obtain ⟨Y, hY, hyl, hyo⟩ : ∃ Y : List Value, itL it sl' = Y ∧ Y.length = 268 ∧ Y.toArray.all (·.oneCell') = true := ⟨_, rfl, itL_len HGD.out, all_oneL (itL_one hone)⟩
 rw [hY] at HX
 rw [hY]
 have HT2 : Hid (w2.there w.heap.size 22 Y.toArray.size) := Lib.hid (HF2.out.there (by rw [List.size_toArray, hyl]; omega))
 have HY2 : Hid ((Tryz.prog.info? 78).map (·.size) = some Y.toArray.size) := Lib.hid (by rw [List.size_toArray, hyl]; exact infoIt)
 have HYO := Lib.hid hyo
 clear hY hyl hyo hb2 ho2 hone CI
 obtain ⟨IL, hIL, hil, hone, hrc, hth, hth2, hii, hij, hfin⟩ := HX.out.fin
 have HRC := Lib.hid hrc
 have HTH := Lib.hid hth
 have HTH2 := Lib.hid hth2
 have HII := Lib.hid hii
 have HIJ := Lib.hid hij
 have HON := Lib.hid (And.intro hil hone)
 have HFIN := Lib.hid hfin
 clear hIL hil hone hrc hth hth2 hii hij hfin
 go_upto_region 21 with (first
  | (refine wpList_store_mid rfl 78 _ _ rfl w.heap.size 22 Y.toArray rfl rfl HT2.out HY2.out HYO.out ?_))
 go_wp2_with (first
  | (refine wpList_load_mid rfl 80 _ rfl w.heap.size 0 rfl IL _ HRC.out Tryz.underlying80 rfl HII.out ?_)
  | (refine wpList_store_mid rfl 80 _ _ rfl (w.heap.size + 1) 0 IL.toArray rfl rfl HTH2.out HIJ.out HON.out.2 ?_))
 exact bodyPost_ret (v := .agg IL.toArray) (resM rfl _ _ _ rfl HON.out.1 HTH.out) rfl HFIN.out
end Go.Proofs.YtgkelbdgdhkeoaaGreat
