/- The reference's Of, walked. -/
import Derived.Deep.LoopGhost
import Derived.Deep.RegionHeld3
import Derived.Test.YtgkelbdgdhkeoaaGreatPMsg27
import Derived.Test.YtgkelbdgdhkeoaaGreatPMsg37
import Derived.Test.YtgkelbdgdhkeoaaGreatPMsg29
namespace Go.Proofs.YtgkelbdgdhkeoaaGreat
open Go.RowKit
set_option linter.unusedVariables false
set_option linter.unusedSimpArgs false
open Wire Cmd
theorem ofL_k : ∀ (cs : List UInt8) (m : Ms0) (b : List UInt8) (m' : Ms0) (r : List UInt8), ofL m cs b = some (m', r) → m'.k = m.k
 | [], m, b, m', r, h => by
  obtain ⟨rfl, rfl⟩ := Prod.mk.inj (Option.some.inj h)
  rfl
 | c :: cs, m, b, m', r, h => by
  rw [ofL] at h
  cases hu : unpack (shapeC (c.toNat : Int) ((b.headD 0).toNat : Int)) b with
  | none => rw [hu] at h; cases h
  | some p =>
   obtain ⟨l, n⟩ := p
   rw [hu, Option.bind_some] at h
   exact (ofL_k cs _ _ _ _ h).trans (getM_k _ _ _).1
theorem OfI.bad {bs : List UInt8} {pos q : Nat} {m : Ms0} (h : OfI bs (nmM m.k) pos q m) {c : UInt8} (hc : (nmM m.k)[pos]? = some c) {l : List V} {n : Nat} (hu : unpack (shapeC (c.toNat : Int) (((bs.drop q).headD 0).toNat : Int)) (bs.drop q) = some (l, n)) (hb : kept (c.toNat : Int) (getM m (c.toNat : Int) l) = false) : ofM bs = none := by
 have hd : (nmM m.k).drop pos = c :: (nmM m.k).drop (pos + 1) := by
  obtain ⟨hl, rfl⟩ := List.getElem?_eq_some_iff.1 hc
  exact List.drop_eq_getElem_cons hl
 rw [ofM_P, h.eq, hd, ofL, hu, Option.bind_some]
 dsimp only
 cases ho : ofL (getM m (c.toNat : Int) l) ((nmM m.k).drop (pos + 1)) ((bs.drop q).drop n) with
 | none => rfl
 | some p =>
  obtain ⟨m', r⟩ := p
  rw [Option.bind_some]
  refine if_neg (fun hh => ?_)
  have hk : m'.k = m.k := (ofL_k _ _ _ _ _ ho).trans (getM_k _ _ _).1
  have h1 := (mayM_parts hh.2).1
  rw [hk] at h1
  have hnd := nmM_nodup m.k
  have hnd2 : (c :: (nmM m.k).drop (pos + 1)).Nodup := hd ▸ hnd.sublist (List.drop_sublist _ _)
  obtain ⟨hcn, hnd3⟩ := List.nodup_cons.1 hnd2
  have hmem : ∀ d ∈ (nmM m.k).drop (pos + 1), d ∈ nmM m.k := fun d hd => List.mem_of_mem_drop hd
  have hcm : c ∈ nmM m.k := List.mem_of_getElem? hc
  obtain ⟨_, _, _, hf, _, _⟩ := ofL_inv _ _ _ _ _ hnd3 (fun d hd => nmM_nine _ d (hmem d hd)) ho (fun d hd => h1 d (hmem d hd))
  have e : (fc c m').2.1 = (fc c (getM m (c.toNat : Int) l)).2.1 := by rw [hf c (nmM_nine _ c hcm) hcn]
  have e2 : kept (c.toNat : Int) m' = kept (c.toNat : Int) (getM m (c.toNat : Int) l) := e
  rw [hb, h1 c hcm] at e2
  cases e2
/-- What the reference's Of leaves. -/
def ROMfP (w0 w : World) (o : Option Ms0) (e : Ending) (w' : World) : Prop :=
 Below w.heap.size w w' ∧ ∃ s1 s2, e = .returned (.tuple #[.agg (msL (oM o) s1 s2).toArray, .bool o.isSome]) ∧ Rd w0 1 s1 (oM o).op.data.length (bV (oM o).op.data) ∧ Rd w0 1 s2 (oM o).item.op.data.length (bV (oM o).item.op.data)
theorem ROMfP.none_of {w0 w w' : World} {o : Option Ms0} {e : Ending} (ho : o = none) (he : e = .returned (.tuple #[.agg zM.toArray, .bool false])) (hb : Below w.heap.size w w') : ROMfP w0 w o e w' := by
 subst ho; exact ⟨hb, _, _, he, Rd.of_own (World.ownsRow_nil w0 0 5 1), Rd.of_own (World.ownsRow_nil w0 0 5 1)⟩
theorem ROMfP.some_of {w0 w w' : World} {o : Option Ms0} {a : Ms0} {s1 s2 : Value} {e : Ending} (ho : o = some a) (he : e = .returned (.tuple #[.agg (msL a s1 s2).toArray, .bool true])) (h1 : Rd w0 1 s1 a.op.data.length (bV a.op.data)) (h2 : Rd w0 1 s2 a.item.op.data.length (bV a.item.op.data)) (hb : Below w.heap.size w w') : ROMfP w0 w o e w' := by
 subst ho; exact ⟨hb, s1, s2, he, h1, h2⟩
/-- A message's box, its operations' data as they lay in w0. -/
def BR (w0 : World) (P : Nat) (m : Ms0) (W : World) : Prop := ∃ t1 t2, BM W P m t1 t2 ∧ Rd w0 1 t1 m.op.data.length (bV m.op.data) ∧ Rd w0 1 t2 m.item.op.data.length (bV m.item.op.data)
theorem BR.mono {w0 : World} {P : Nat} {m : Ms0} {W W' : World} (h : BR w0 P m W) (hb : Below W.heap.size W W') : BR w0 P m W' := by
 obtain ⟨t1, t2, h1, h2, h3⟩ := h
 exact ⟨t1, t2, h1.mono hb, h2, h3⟩
theorem BR.lt {w0 : World} {P : Nat} {m : Ms0} {W : World} (h : BR w0 P m W) : P < W.heap.size := by
 obtain ⟨t1, t2, h1, _⟩ := h
 exact (Array.getElem?_eq_some_iff.1 h1).1
/-- What a round of the reference's Of knows of memory. -/
structure RMf (P : Nat) (w0 w : World) (m : Ms0) (W : World) : Prop where
 rb : W.heap[w.heap.size]? = some (.cells zM.toArray 80 (0, 0))
 nb : W.heap[w.heap.size + 1]? = some (.cells zM.toArray 80 (0, 0))
 bx : BR w0 P m W
 below : Below w.heap.size w W
 kb : w.heap.size + 1 < P
theorem RMf.lt {P : Nat} {w0 w : World} {m : Ms0} {W : World} (h : RMf P w0 w m W) : w.heap.size < W.heap.size ∧ w.heap.size + 1 < W.heap.size ∧ P < W.heap.size :=
 ⟨(Array.getElem?_eq_some_iff.1 h.rb).1, (Array.getElem?_eq_some_iff.1 h.nb).1, h.bx.lt⟩
theorem RMf.mono {P : Nat} {w0 w : World} {m : Ms0} {W W' : World} (h : RMf P w0 w m W) (hb : Below W.heap.size W W') : RMf P w0 w m W' := by
 obtain ⟨h1, h2, h3⟩ := h.lt
 exact ⟨(hb.block _ h1).trans h.rb, (hb.block _ h2).trans h.nb, h.bx.mono hb, bthen h.below hb, h.kb⟩
theorem RMf.other {P Q o : Nat} {w0 w : World} {m : Ms0} {W : World} {vs : List Value} (h : RMf P w0 w m W) (hq : Q ≠ P) (h2 : w.heap.size + 1 < Q) : RMf P w0 w m (W.setCells Q o vs) := by
 obtain ⟨t1, t2, b1, b2, b3⟩ := h.bx
 have hk := h.kb
 exact ⟨(heapSetC _ _ _ _ _ (by omega)).trans h.rb, (heapSetC _ _ _ _ _ (by omega)).trans h.nb, ⟨t1, t2, (heapSetC _ _ _ _ _ (fun e => hq e.symm)).trans b1, b2, b3⟩, belowSetC (by omega) _ _ _ h.below, hk⟩
theorem RMf.store {P : Nat} {w0 w : World} {m m' : Ms0} {W : World} {s1 s2 : Value} (h : RMf P w0 w m W) (hd : m.item.data.length = 256) (hd' : m'.item.data.length = 256) (o1 : Rd w0 1 s1 m'.op.data.length (bV m'.op.data)) (o2 : Rd w0 1 s2 m'.item.op.data.length (bV m'.item.op.data)) :
  RMf P w0 w m' (W.setCells P 0 (msL m' s1 s2)) := by
 obtain ⟨t1, t2, b1, b2, b3⟩ := h.bx
 have hk := h.kb
 have hx : (W.setCells P 0 (msL m' s1 s2)).heap[P]? = some (.cells (msL m' s1 s2).toArray 80 (0, 0)) := by
  have := setCells_heap (b := P) (t := 80) (msL m' s1 s2) W [] (msL m t1 t2) [] (by rw [msL_len hd, msL_len hd']) (by rw [List.nil_append, List.append_nil]; exact b1)
  rw [List.nil_append, List.append_nil] at this
  exact this
 exact ⟨(heapSetC _ _ _ _ _ (by omega)).trans h.rb, (heapSetC _ _ _ _ _ (by omega)).trans h.nb, ⟨s1, s2, hx, o1, o2⟩, belowSetC (by omega) _ _ _ h.below, hk⟩
theorem RMf.item {P : Nat} {w0 w : World} {m : Ms0} {W : World} {i : It0} {sl : Value} (h : RMf P w0 w m W) (hd : m.item.data.length = 256) (hd' : i.data.length = 256) (o2 : Rd w0 1 sl i.op.data.length (bV i.op.data)) :
  RMf P w0 w { m with item := i } (W.setCells P 22 (itL i sl)) := by
 obtain ⟨t1, t2, b1, b2, b3⟩ := h.bx
 have hk := h.kb
 exact ⟨(heapSetC _ _ _ _ _ (by omega)).trans h.rb, (heapSetC _ _ _ _ _ (by omega)).trans h.nb, ⟨t1, sl, BM.put (b' := { m with item := i }) (o := 22) (Y := itL i sl) b1 (msL_item m t1 t2) rfl (by rw [itL_len hd, itL_len hd']) (msL_item { m with item := i } t1 sl), b2, o2⟩, belowSetC (by omega) _ _ _ h.below, hk⟩
theorem newM0_store (w : World) : (storeCells ⟨w.heap.size, 0, none⟩ Tryz.zeroCells80.toList).run Tryz.prog (w.alloc (.cells Tryz.zeroCells80 80)) = .ok () (w.alloc (.cells Tryz.zeroCells80 80)) :=
 run_storeNew (P := Tryz.prog) w 80 Tryz.zeroCells80 Tryz.zeroCells80 rfl (by
  have h : ∀ u ∈ zM, u.oneCell' = true := msL_one rfl rfl
  have e : Tryz.zeroCells80.toList = zM := by rw [zM_eq]
  rw [e]
  exact h)
theorem set_whole {W : World} {N : Nat} {T : TypeId} {cs old : List Value} (h : W.heap[N]? = some (.cells old.toArray T (0, 0))) (hl : old.length = cs.length) : (W.setCells N 0 cs).heap[N]? = some (.cells cs.toArray T (0, 0)) := by
 have := setCells_heap (b := N) (t := T) cs W [] old [] hl (by rw [List.nil_append, List.append_nil]; exact h)
 rw [List.nil_append, List.append_nil] at this
 exact this
set_option maxRecDepth 100000 in
set_option maxHeartbeats 12800000 in
theorem rofM_any (bs : List UInt8) (v : Value) (w0 w : World) (hd0 : Rd w0 1 v bs.length (bV bs)) (hbw : Below w0.heap.size w0 w) (hm : bs.length ≤ 20000) :
  Calls Tryz.prog 35 #[v] w (ROMfP w0 w (ofM bs)) := by
 have HD := Lib.hid hd0
 have HBW := Lib.hid hbw
 obtain ⟨ao, cap, rfl, _, _, ⟨_, hc1, hc2⟩, hcell⟩ := hd0
 clear hcell
 unfold maxLen at hc2
 obtain ⟨n, hn⟩ : ∃ n, bs.length = n := ⟨_, rfl⟩
 have HN := Lib.hid hn
 rw [hn] at HD hm hc1 ⊢
 obtain ⟨W0, hW0⟩ : ∃ W, (w.alloc (.cells Tryz.zeroCells80 80)).alloc (.cells Tryz.zeroCells80 80) = W := ⟨_, rfl⟩
 have HB0 : Hid (Below w.heap.size w W0) := Lib.hid (by rw [← hW0]; exact balloc (balloc (Below.refl _ _) _) _)
 have HX0 : Hid (W0.heap[w.heap.size]? = some (.cells zM.toArray 80 (0, 0)) ∧ W0.heap[w.heap.size + 1]? = some (.cells zM.toArray 80 (0, 0))) := Lib.hid (by
  rw [← hW0, ← zM_eq]
  exact ⟨(Below.heap_alloc _ _ _ (by simp)).trans (heap_alloc_new w _), heap_twoM w _ _⟩)
 have hst := newM0_store (w.alloc (.cells Tryz.zeroCells80 80))
 rw [World.size_alloc, hW0] at hst
 have CU : Calls Tryz.prog 50 #[.string ⟨#[49, 56]⟩, .slice ao n cap] W0 (RUnpackP w0 W0 true (unpack [49, 56] bs)) := by
  have h := runpack_any (strB [49, 56]) HD.out (bthen HBW.out HB0.out) (by omega) (by rw [str_size]; decide)
  rw [chs_str] at h
  exact h
 have HCU := Lib.hid (CU.mono fun _ _ h => ru_of h)
 clear CU hn hbw
 go_enter Tryz.func35, Tryz.ntmps35
 go_upto_region 2 with fail
 clear hst hW0
 go_wp2_with fail
 refine HCU.out.mono ?_
 rintro e w1 ⟨v1, q, code, rfl, hb1, hP⟩
 have HB1 := Lib.hid (bthen HB0.out hb1)
 have HX1 : Hid (w1.heap[w.heap.size]? = some (.cells zM.toArray 80 (0, 0)) ∧ w1.heap[w.heap.size + 1]? = some (.cells zM.toArray 80 (0, 0))) := Lib.hid ⟨(hb1.block _ (Array.getElem?_eq_some_iff.1 HX0.out.1).1).trans HX0.out.1, (hb1.block _ (Array.getElem?_eq_some_iff.1 HX0.out.2).1).trans HX0.out.2⟩
 clear hb1 HCU
 rcases hP with ⟨hu, rfl⟩ | ⟨rfl, cs, hu, hrow⟩
 ·have HE : Hid (ofM bs = none) := Lib.hid (by rw [ofM_P]; unfold ofP; rw [hu]; rfl)
  clear hu
  obtain ⟨WB, hWB⟩ : ∃ W, W = w1 := ⟨_, rfl⟩
  subst hWB
  have HBB := HB1
  have HXB := Lib.hid HX1.out.1
  have HNB := Lib.hid HX1.out.2
  have HRN : Hid (WB.rangeAt (w.heap.size + 1) 0 zM) := Lib.hid (fun j u hj => by
   rw [Nat.zero_add]
   exact cellIs HNB.out (by simpa using hj))
  have HTH : Hid (WB.there w.heap.size 0 290) := Lib.hid (there_of HXB.out (by rw [List.size_toArray]; exact zM_len))
  have HFIN : Hid (Below w.heap.size w (WB.setCells w.heap.size 0 zM)) := Lib.hid (belowSetC (Nat.le_refl _) _ _ _ HBB.out)
  go_wp2_with (first
   | (refine wpList_load_mid rfl 80 _ rfl (w.heap.size + 1) 0 rfl zM _ HRN.out Tryz.underlying80 rfl (by exact infoZM) ?_)
   | (refine wpList_store_mid rfl 80 _ _ rfl w.heap.size 0 zM.toArray rfl rfl HTH.out infoZM oneZM ?_))
  exact bodyPost_ret (v := .tuple #[.agg zM.toArray, .bool false]) (resMt rfl _ _ _ _ rfl rfl zM_len HTH.out) rfl (ROMfP.none_of HE.out rfl HFIN.out)
 ·obtain ⟨x0, y0, hxy, hx0, hy0⟩ := unpack_two hu
  rw [hxy] at hu
  have HOI := Lib.hid (OfI.beg hu)
  obtain ⟨z0, z1, rfl⟩ := map_two hxy
  have e1 : (num x0).n = x0 := rfl
  have e2 : (num y0).n = y0 := rfl
  rw [e1, e2] at HOI
  obtain ⟨g, capg, rfl, hgl, _, hnc, hcm, hget⟩ := rv_cells hrow (by simp)
  simp only [List.length_cons, List.length_nil, Nat.zero_add, Nat.reduceAdd] at hnc ⊢
  have hdw : Below w1.heap.size w1 w1.drew := (Below.refl _ _).drew
  have d0 : w1.drew.cell? ⟨g, 1, none⟩ = some (.int .u64 (x0 : Int)) := (hget 0 _ _ rfl).2.2 _ hdw 1 _ rfl
  have d1 : w1.drew.cell? ⟨g, 261, none⟩ = some (.int .u64 (y0 : Int)) := (hget 1 _ _ rfl).2.2 _ hdw 1 _ rfl
  have hwr : IntKind.i64.wrap (x0 : Int) = (x0 : Int) := IntWalk.i64_in _ (by omega)
  obtain ⟨P, hP⟩ : ∃ P, w1.drew.heap.size = P := ⟨_, rfl⟩
  have hst : (storeCells ⟨P, 0, none⟩ ((Tryz.zeroCells80.toList.set 0 (.int .i64 (x0 : Int))).set 1 (.int .u64 (y0 : Int)))).run Tryz.prog ((w1.alloc (.cells Tryz.zeroCells80 80)).drew) = .ok () ((w1.alloc (.cells (msZ (x0 : Int) y0).toArray 80)).drew) := by
   rw [← hP]
   exact newM_store w1.drew (x0 : Int) y0
  have HPZ : Hid (w.heap.size + 1 < P ∧ w1.heap.size = P) := Lib.hid ⟨by rw [← hP]; exact (Array.getElem?_eq_some_iff.1 HX1.out.2).1, by rw [← hP]; rfl⟩
  have HSA : Hid (∀ o, ((w1.drew.alloc o).cell? ⟨g, 1, none⟩ = some (.int .u64 (x0 : Int))) ∧ ((w1.drew.alloc o).cell? ⟨g, 261, none⟩ = some (.int .u64 (y0 : Int)))) := Lib.hid (fun o => ⟨((balloc (Below.refl _ w1.drew) o).cell (p := ⟨g, 1, none⟩) hgl).trans d0, ((balloc (Below.refl _ w1.drew) o).cell (p := ⟨g, 261, none⟩) hgl).trans d1⟩)
  clear hu hrow hget hxy e1 e2 hdw
  go_upto_region 5 with fail
  refine wp_region_held_drew (S := fun X => X.cell? ⟨g, 1, none⟩ = some (.int .u64 (x0 : Int)) ∧ X.cell? ⟨g, 261, none⟩ = some (.int .u64 (y0 : Int))) (by kernel_rfl) ⟨d0, d1⟩ (fun hHeld => ?_)
  clear d0 d1
  refine wpAnyH_take (i := 0) (v := ?_) rfl (by kernel_rfl) (by kernel_rfl) (by kernel_rfl) (fun _ _ _ h => h) (Or.inl ⟨by rfl, ?_⟩) (by assumption) ?_
  rotate_left
  ·(intro w hSw; (try dsimp only at hSw); simp only [List.getElem_toArray, List.getElem_cons_zero, List.getElem_cons_succ]; go_simp; first | done | with_reducible rfl)
  simp only [List.getElem_toArray, List.getElem_cons_zero, List.getElem_cons_succ, Act.put, List.setIfInBounds_toArray, List.set_cons_zero, List.set_cons_succ]
  refine wpAnyH_take (i := 1) (v := ?_) rfl (by kernel_rfl) (by kernel_rfl) (by kernel_rfl) (fun _ _ _ h => h) (Or.inl ⟨by rfl, ?_⟩) (by assumption) ?_
  rotate_left
  ·(intro w hSw; (try dsimp only at hSw); simp only [List.getElem_toArray, List.getElem_cons_zero, List.getElem_cons_succ]; go_simp; first | done | with_reducible rfl)
  simp only [List.getElem_toArray, List.getElem_cons_zero, List.getElem_cons_succ, Act.put, List.setIfInBounds_toArray, List.set_cons_zero, List.set_cons_succ]
  refine wpAnyH_take (i := 2) (v := ?_) rfl (by kernel_rfl) (by kernel_rfl) (by kernel_rfl) (fun _ _ _ h => h) (Or.inl ⟨by rfl, ?_⟩) (by assumption) ?_
  rotate_left
  ·(intro w hSw; (try dsimp only at hSw); simp only [List.getElem_toArray, List.getElem_cons_zero, List.getElem_cons_succ]; go_simp; first | done | with_reducible rfl)
  simp only [List.getElem_toArray, List.getElem_cons_zero, List.getElem_cons_succ, Act.put, List.setIfInBounds_toArray, List.set_cons_zero, List.set_cons_succ]
  refine wpAnyH_take (i := 3) (v := ?_) rfl (by kernel_rfl) (by kernel_rfl) (by kernel_rfl) (fun _ _ _ h => h) (Or.inl ⟨by rfl, ?_⟩) (by assumption) ?_
  rotate_left
  ·(intro w hSw; (try dsimp only at hSw); simp only [List.getElem_toArray, List.getElem_cons_zero, List.getElem_cons_succ]; go_simp; first | done | with_reducible rfl)
  simp only [List.getElem_toArray, List.getElem_cons_zero, List.getElem_cons_succ, Act.put, List.setIfInBounds_toArray, List.set_cons_zero, List.set_cons_succ]
  refine wpAnyH_take (i := 4) (v := ?_) rfl (by kernel_rfl) (by kernel_rfl) (by kernel_rfl) (fun _ _ _ h => h) (Or.inl ⟨by rfl, ?_⟩) (by assumption) ?_
  rotate_left
  ·(intro w hSw; (try dsimp only at hSw); simp only [List.getElem_toArray, List.getElem_cons_zero, List.getElem_cons_succ]; go_simp; first | done | with_reducible rfl)
  simp only [List.getElem_toArray, List.getElem_cons_zero, List.getElem_cons_succ, Act.put, List.setIfInBounds_toArray, List.set_cons_zero, List.set_cons_succ]
  refine wpAnyH_take (i := 5) (v := ?_) rfl (by kernel_rfl) (by kernel_rfl) (by kernel_rfl) (fun _ _ _ h => h) (Or.inl ⟨by rfl, ?_⟩) (by assumption) ?_
  rotate_left
  ·(intro w hSw; (try dsimp only at hSw); simp only [List.getElem_toArray, List.getElem_cons_zero, List.getElem_cons_succ]; go_simp; first | done | with_reducible rfl)
  simp only [List.getElem_toArray, List.getElem_cons_zero, List.getElem_cons_succ, Act.put, List.setIfInBounds_toArray, List.set_cons_zero, List.set_cons_succ]
  refine wpAnyH_take (i := 6) (v := ?_) rfl (by kernel_rfl) (by kernel_rfl) (by kernel_rfl) (fun _ _ _ h => h) (Or.inl ⟨by rfl, ?_⟩) (by assumption) ?_
  rotate_left
  ·(intro w hSw; (try dsimp only at hSw); simp only [List.getElem_toArray, List.getElem_cons_zero, List.getElem_cons_succ]; go_simp; first | done | with_reducible rfl)
  simp only [List.getElem_toArray, List.getElem_cons_zero, List.getElem_cons_succ, Act.put, List.setIfInBounds_toArray, List.set_cons_zero, List.set_cons_succ]
  refine wpAnyH_take (i := 7) (v := ?_) rfl (by kernel_rfl) (by kernel_rfl) (by kernel_rfl) (fun _ _ _ h => h) (Or.inl ⟨by rfl, ?_⟩) (by assumption) ?_
  rotate_left
  ·(intro w hSw; (try dsimp only at hSw); simp only [List.getElem_toArray, List.getElem_cons_zero, List.getElem_cons_succ]; go_simp; first | done | with_reducible rfl)
  simp only [List.getElem_toArray, List.getElem_cons_zero, List.getElem_cons_succ, Act.put, List.setIfInBounds_toArray, List.set_cons_zero, List.set_cons_succ]
  refine wpAnyH_take (i := 8) (v := ?_) rfl (by kernel_rfl) (by kernel_rfl) (by kernel_rfl) (fun _ _ _ h => h) (Or.inl ⟨by rfl, ?_⟩) (by assumption) ?_
  rotate_left
  ·(intro w hSw; (try dsimp only at hSw); simp only [List.getElem_toArray, List.getElem_cons_zero, List.getElem_cons_succ]; go_simp; first | done | with_reducible rfl)
  simp only [List.getElem_toArray, List.getElem_cons_zero, List.getElem_cons_succ, Act.put, List.setIfInBounds_toArray, List.set_cons_zero, List.set_cons_succ]
  refine wpAnyH_take (i := 9) (v := ?_) rfl (by kernel_rfl) (by kernel_rfl) (by kernel_rfl) (fun _ _ _ h => h) (Or.inl ⟨by rfl, ?_⟩) (by assumption) ?_
  rotate_left
  ·(intro w hSw; (try dsimp only at hSw); simp only [List.getElem_toArray, List.getElem_cons_zero, List.getElem_cons_succ]; go_simp; first | done | with_reducible rfl)
  simp only [List.getElem_toArray, List.getElem_cons_zero, List.getElem_cons_succ, Act.put, List.setIfInBounds_toArray, List.set_cons_zero, List.set_cons_succ]
  refine wpAnyH_ready (rs := [10]) (by kernel_rfl) (by simp) ?_
  refine AllReadyH.cons rfl (fun K hK => ?_) AllReadyH.nil
  simp only [List.getElem_toArray, List.getElem_cons_zero, List.getElem_cons_succ]
  go_simp
  refine hK.out _ _ ?_ (fun hHeld => ?_)
  ·exact HSA.out _
  clear hK K
  try simp only [Act.put, List.setIfInBounds_toArray, List.set_cons_zero, List.set_cons_succ]
  refine wpAnyH_ready (rs := [11]) (by kernel_rfl) (by simp) ?_
  refine AllReadyH.cons rfl (fun K hK => ?_) AllReadyH.nil
  simp only [List.getElem_toArray, List.getElem_cons_zero, List.getElem_cons_succ]
  go_simp
  refine hK.out _ _ ?_ (fun hHeld => ?_)
  ·exact HSA.out _
  clear hK K
  try simp only [Act.put, List.setIfInBounds_toArray, List.set_cons_zero, List.set_cons_succ]
  refine wpAnyH_done (by kernel_rfl) ?_ _
  have HB4 : Hid (Below w.heap.size w ((w1.alloc (.cells (msZ (x0 : Int) y0).toArray 80)).drew)) := Lib.hid (balloc HB1.out.drew _)
  have HX4 : Hid (((w1.alloc (.cells (msZ (x0 : Int) y0).toArray 80)).drew).heap[w.heap.size]? = some (.cells zM.toArray 80 (0, 0)) ∧ ((w1.alloc (.cells (msZ (x0 : Int) y0).toArray 80)).drew).heap[w.heap.size + 1]? = some (.cells zM.toArray 80 (0, 0))) := Lib.hid ⟨(Below.heap_alloc _ _ _ (Array.getElem?_eq_some_iff.1 HX1.out.1).1).trans HX1.out.1, (Below.heap_alloc _ _ _ (Array.getElem?_eq_some_iff.1 HX1.out.2).1).trans HX1.out.2⟩
  have HP4 : Hid (((w1.alloc (.cells (msZ (x0 : Int) y0).toArray 80)).drew).heap[P]? = some (.cells (msZ (x0 : Int) y0).toArray 80 (0, 0))) := Lib.hid (by rw [← hP]; exact heap_alloc_new w1.drew _)
  have k0 : ((w1.alloc (.cells (msZ (x0 : Int) y0).toArray 80)).drew).cell? ⟨P, 0, none⟩ = some (.int .i64 (x0 : Int)) := cellIs HP4.out rfl
  clear hst hwr HSA hHeld
  clear hP
  generalize (w1.alloc (.cells (msZ (x0 : Int) y0).toArray 80)).drew = w4 at *
  go_wp2_with fail
  clear k0
  refine (rnamesM_any (x0 : Int) _).mono ?_
  rintro e w5 ⟨rfl, rfl⟩
  have HI : Hid (RMf P w0 w (msK (x0 : Int) y0) w4) := Lib.hid ⟨HX4.out.1, HX4.out.2, ⟨_, _, HP4.out, Rd.of_own (World.ownsRow_nil w0 0 5 1), Rd.of_own (World.ownsRow_nil w0 0 5 1)⟩, HB4.out, HPZ.out.1⟩
  have HNI := Lib.hid (nmM_nine (x0 : Int))
  have HKS : Hid (nmM (msK (x0 : Int) y0).k = nmM (x0 : Int)) := Lib.hid rfl
  have HCS := Lib.hid (chs_str (nmM (x0 : Int)))
  have HSS := Lib.hid (str_size (nmM (x0 : Int)))
  have HN3 := Lib.hid (nmM_len (x0 : Int))
  generalize nmM (x0 : Int) = ks at *
  generalize hs : strB ks = s at *
  have HS := Lib.hid hs
  have hsz3 : s.size ≤ 3 := by rw [HSS.out]; exact HN3.out
  clear hs HX0 HB0 HX1 HB1 HX4 HP4 HB4
  go_wp2_with fail
  go_loopg [6, 10] s.size (fun g a i wr => ∃ (pos at' : Nat) (m : Ms0), pos ≤ s.size ∧ g = s.size - pos ∧ .int .i64 (at' : Int) = a ∧ .int .i64 (pos : Int) = i ∧ OfI bs ks pos at' m ∧ nmM m.k = ks ∧ RMf P w0 w m wr)
  case atStart => exact ⟨0, q, _, by omega, by omega, rfl, rfl, HOI.out, HKS.out, HI.out⟩
  case round =>
   obtain ⟨pos, at', m, hp, hg, hat, hpi, hoi, hmk, hmm⟩ := hrel
   subst hat
   subst hpi
   have HG := Lib.hid hg
   have HM := Lib.hid hmm
   have HO := Lib.hid hoi
   have HMK := Lib.hid hmk
   have hle : at' ≤ n := by rw [← HN.out]; exact hoi.le
   clear hg hmm hoi HI HOI hmk HKS
   by_cases hlt : pos < s.size
   ·have hget : ks[pos]? = some (s[pos]'hlt) := by
     have h1 := chs_get hlt
     rw [HCS.out] at h1; exact h1
    have HGET := Lib.hid hget
    have HNC := Lib.hid (HNI.out _ (List.mem_of_getElem? hget))
    obtain ⟨kk, hkk⟩ : ∃ kk, ((bs.drop at').headD 0).toNat = kk := ⟨_, rfl⟩
    have HKK := Lib.hid hkk
    have hcut2 := fun W => run_cutL (P := Tryz.prog) W 34 ao n cap 1 undBytes szBytes (at' : Int) (by omega) (by omega)
    have htn : ((at' : Nat) : Int).toNat = at' := by omega
    rw [htn] at hcut2
    have HTL : Hid (Rd w0 1 (.slice (cutA ao cap at' 1) (n - at') (cap - at')) (n - at') (bV (bs.drop at'))) := Lib.hid (HD.out.tail hle)
    have HDL : Hid ((bs.drop at').length = n - at') := Lib.hid (by rw [List.length_drop, HN.out])
    generalize cutA ao cap at' 1 = A1 at *
    clear hget hkk htn
    by_cases h105 : (s[pos]'hlt) = 105
    ·have hcn : ((s[pos]'hlt).toNat : Int) = 105 := by rw [h105]; rfl
     rw [h105] at HGET
     have CI := ritemOf_any (bs.drop at') (by rw [HDL.out]; omega) (.slice A1 (n - at') (cap - at')) w0 wr (by rw [HDL.out]; exact HTL.out) (bthen HBW.out HM.out.below)
     unfold RItP at CI
     rw [HKK.out] at CI
     have HCI := Lib.hid CI
     clear CI h105
     go_wp2_with fail
     refine HCI.out.mono ?_
     rintro e w7 ⟨hb7, it, sl, qi, yi, rfl, hid, hio, hP7⟩
     have HM7 := Lib.hid (HM.out.mono hb7)
     have HID := Lib.hid hid
     have HIO := Lib.hid hio
     obtain ⟨IL, hIL, hil, hone⟩ : ∃ L, itL it sl = L ∧ L.length = 268 ∧ L.toArray.all (·.oneCell') = true := ⟨_, rfl, itL_len hid, all_oneL (itL_one hio)⟩
     have HIL := Lib.hid hIL
     rw [hIL]
     have hst7 : (storeCells ⟨w7.heap.size, 0, none⟩ IL).run Tryz.prog (w7.alloc (.cells Tryz.zeroCells78 78)) = .ok () (w7.alloc (.cells IL.toArray 78)) :=
      run_storeNew (P := Tryz.prog) w7 78 Tryz.zeroCells78 IL.toArray (by rw [zeroI268, List.size_toArray, hil]) (by
       have h := Array.all_eq_true_iff_forall_mem.1 hone
       intro u hu
       exact h u (by simpa using hu))
     have HON := Lib.hid (And.intro hil hone)
     obtain ⟨w8, hw8⟩ : ∃ W, w7.alloc (.cells IL.toArray 78) = W := ⟨_, rfl⟩
     have HM8 : Hid (RMf P w0 w m w8) := Lib.hid (by rw [← hw8]; exact HM7.out.mono (balloc (Below.refl _ _) _))
     have HX8 : Hid (w8.heap[w7.heap.size]? = some (.cells IL.toArray 78 (0, 0))) := Lib.hid (by rw [← hw8]; exact heap_alloc_new w7 _)
     have HZ8 : Hid (P < w7.heap.size) := Lib.hid HM7.out.lt.2.2
     rw [hw8] at hst7
     clear hw8 hb7 hid hio hIL hone hcut2
     go_upto_region 12 with fail
     clear hst7
     rcases hP7 with ⟨rfl, hbad⟩ | ⟨rfl, l7, hu7, rfl, hr7⟩
     ·have HE : Hid (ofM bs = none) := Lib.hid (by
       rcases hbad with hu7 | ⟨l7, q7, hu7, hk7⟩
       ·exact HO.out.no HGET.out (by rw [HKK.out]; exact hu7)
       ·have hg := HGET.out
        have ho := HO.out
        rw [← HMK.out] at hg ho
        exact ho.bad hg (by rw [HKK.out]; exact hu7) hk7)
      clear hbad hil
      have HBB := Lib.hid HM8.out.below
      have HXB := Lib.hid HM8.out.rb
      have HNB := Lib.hid HM8.out.nb
      obtain ⟨WB, hWB⟩ : ∃ W, W = w8 := ⟨_, rfl⟩
      subst hWB
      have HRN : Hid (WB.rangeAt (w.heap.size + 1) 0 zM) := Lib.hid (fun j u hj => by
       rw [Nat.zero_add]
       exact cellIs HNB.out (by simpa using hj))
      have HTH : Hid (WB.there w.heap.size 0 290) := Lib.hid (there_of HXB.out (by rw [List.size_toArray]; exact zM_len))
      have HFIN : Hid (Below w.heap.size w (WB.setCells w.heap.size 0 zM)) := Lib.hid (belowSetC (Nat.le_refl _) _ _ _ HBB.out)
      go_wp2_with (first
       | (refine wpList_load_mid rfl 80 _ rfl (w.heap.size + 1) 0 rfl zM _ HRN.out Tryz.underlying80 rfl (by exact infoZM) ?_)
       | (refine wpList_store_mid rfl 80 _ _ rfl w.heap.size 0 zM.toArray rfl rfl HTH.out infoZM oneZM ?_))
      exact bodyPost_ret (v := .tuple #[.agg zM.toArray, .bool false]) (resMt rfl _ _ _ _ rfl rfl zM_len HTH.out) rfl (ROMfP.none_of HE.out rfl HFIN.out)
     ·obtain ⟨hst, hql⟩ := HO.out.step HGET.out (.inr (.inr (.inr (.inr (.inr (.inr (.inr (.inr rfl)))))))) (by rw [HKK.out]; exact hu7)
      rw [HN.out] at hql
      have HST := Lib.hid hst
      have HM9 := Lib.hid (HM8.out.item HO.out.ok.item.data HID.out hr7)
      rw [HIL.out] at HM9
      have HRC : Hid (w8.rangeAt w7.heap.size 0 IL) := Lib.hid (fun j z hj => by
       rw [Nat.zero_add]
       exact cellIs HX8.out (by simpa using hj))
      have HII : Hid ((Tryz.prog.info? 78).map (·.size) = some IL.length) := Lib.hid (by rw [HON.out.1]; exact infoIt)
      have HIJ : Hid ((Tryz.prog.info? 78).map (·.size) = some IL.toArray.size) := Lib.hid (by rw [List.size_toArray, HON.out.1]; exact infoIt)
      have HT8 : Hid (w8.there P 22 IL.toArray.size) := Lib.hid (by
       obtain ⟨t1, t2, hbm, _⟩ := HM8.out.bx
       exact there_mid (N := 290) hbm (by rw [List.size_toArray]; exact msL_len HO.out.ok.item.data) (by rw [List.size_toArray, HON.out.1]; omega))
      have hwa : IntKind.i64.wrap ((at' : Int) + (qi : Int)) = ((at' + qi : Nat) : Int) := by
       rw [Int.natCast_add]
       exact IntWalk.i64_in _ (by omega)
      have HMK2 : Hid (nmM (getM m (((105 : UInt8).toNat : Nat) : Int) l7).k = ks) := Lib.hid (by rw [(getM_k _ _ _).1]; exact HMK.out)
      clear hu7 hst hr7 hil
      go_wp2_with (first
       | (refine wpList_load_mid rfl 78 _ rfl w7.heap.size 0 rfl IL _ HRC.out Tryz.underlying78 rfl HII.out ?_)
       | (refine wpList_store_mid rfl 78 _ _ rfl P 22 IL.toArray rfl rfl HT8.out HIJ.out HON.out.2 ?_))
      go_roundg (s.size - (pos + 1))
      case rel => exact ⟨pos + 1, at' + qi, _, by omega, rfl, rfl, rfl, HST.out, HMK2.out, HM9.out⟩
      case measure => have := HG.out; omega
    ·obtain ⟨c, hc⟩ : ∃ c, (s[pos]'hlt) = c := ⟨_, rfl⟩
     have hg105 : (((s[pos]'hlt).toNat : Int) == 105) = false := bneI (by
      intro h
      apply h105
      apply UInt8.toNat_inj.1
      have : ((105 : UInt8).toNat) = 105 := rfl
      omega)
     have CU2 : Hid (∀ W, Below w.heap.size w W → Calls Tryz.prog 50 #[.string (strB (shapeC ((s[pos]'hlt).toNat : Int) (kk : Int))), .slice A1 (n - at') (cap - at')] W fun e w' => ∃ (v' : Value) (q : Nat) (code : Int), e = .returned (.tuple #[v', .int .i64 (q : Int), .int .i64 code]) ∧ Below W.heap.size W w' ∧ ((unpack (shapeC ((s[pos]'hlt).toNat : Int) (kk : Int)) (bs.drop at') = none ∧ code = 4) ∨ (code = 0 ∧ ∃ cs, unpack (shapeC ((s[pos]'hlt).toNat : Int) (kk : Int)) (bs.drop at') = some (cs.map Prod.fst, q) ∧ RVrow w0 W.heap.size w' v' cs))) := Lib.hid (fun W hW => by
      have h := runpack_any (strB (shapeC ((s[pos]'hlt).toNat : Int) (kk : Int))) HTL.out (bthen HBW.out hW) (by omega) (by rw [str_size]; have := shapeC_len ((s[pos]'hlt).toNat : Int) (kk : Int); omega)
      rw [chs_str, may_C] at h
      exact h.mono fun _ _ hh => ru_of hh)
     have HNE := Lib.hid h105
     have CSH : Hid (∀ X : World, Calls Tryz.prog 53 #[.int .u8 ((s[pos]'hlt).toNat : Int)] X fun e w' => e = .returned (.string (strB (shapeC ((s[pos]'hlt).toNat : Int) (kk : Int)))) ∧ X = w') := Lib.hid (fun X => rshapeC_any _ _ X (by
      intro h
      apply HNE.out
      apply UInt8.toNat_inj.1
      have : ((105 : UInt8).toNat) = 105 := rfl
      omega))
     clear hc h105
     go_upto_region 16 with fail
     clear hg105
     refine wp_region_held_drew (S := fun X => Below wr.heap.size wr X) (by kernel_rfl) ((Below.refl _ _).drew) (fun hHeld => ?_)
     refine wpAnyH_take (i := 0) (v := ?_) rfl (by kernel_rfl) (by kernel_rfl) (by kernel_rfl) (fun _ _ _ h => h) (Or.inl ⟨by rfl, ?_⟩) (by assumption) ?_
     rotate_left
     ·(intro w hSw; (try dsimp only at hSw); simp only [List.getElem_toArray, List.getElem_cons_zero, List.getElem_cons_succ]; go_simp; first | done | with_reducible rfl)
     simp only [List.getElem_toArray, List.getElem_cons_zero, List.getElem_cons_succ, Act.put, List.setIfInBounds_toArray, List.set_cons_zero, List.set_cons_succ]
     refine wpAnyH_take (i := 1) (v := ?_) rfl (by kernel_rfl) (by kernel_rfl) (by kernel_rfl) (fun _ _ _ h => h) (Or.inl ⟨by rfl, ?_⟩) (by assumption) ?_
     rotate_left
     ·(intro w hSw; (try dsimp only at hSw); simp only [List.getElem_toArray, List.getElem_cons_zero, List.getElem_cons_succ]; go_simp; first | done | with_reducible rfl)
     simp only [List.getElem_toArray, List.getElem_cons_zero, List.getElem_cons_succ, Act.put, List.setIfInBounds_toArray, List.set_cons_zero, List.set_cons_succ]
     refine wpAnyH_take (i := 2) (v := ?_) rfl (by kernel_rfl) (by kernel_rfl) (by kernel_rfl) (fun _ _ _ h => h) (Or.inl ⟨by rfl, ?_⟩) (by assumption) ?_
     rotate_left
     ·(intro w hSw; (try dsimp only at hSw); simp only [List.getElem_toArray, List.getElem_cons_zero, List.getElem_cons_succ]; go_simp; first | done | with_reducible rfl)
     simp only [List.getElem_toArray, List.getElem_cons_zero, List.getElem_cons_succ, Act.put, List.setIfInBounds_toArray, List.set_cons_zero, List.set_cons_succ]
     refine wpAnyH_take (i := 4) (v := ?_) rfl (by kernel_rfl) (by kernel_rfl) (by kernel_rfl) (fun _ _ _ h => h) (Or.inl ⟨by rfl, ?_⟩) (by assumption) ?_
     rotate_left
     ·(intro w hSw; (try dsimp only at hSw); simp only [List.getElem_toArray, List.getElem_cons_zero, List.getElem_cons_succ]; go_simp; first | done | with_reducible rfl)
     simp only [List.getElem_toArray, List.getElem_cons_zero, List.getElem_cons_succ, Act.put, List.setIfInBounds_toArray, List.set_cons_zero, List.set_cons_succ]
     refine wpAnyH_take (i := 5) (v := ?_) rfl (by kernel_rfl) (by kernel_rfl) (by kernel_rfl) (fun _ _ _ h => h) (Or.inl ⟨by rfl, ?_⟩) (by assumption) ?_
     rotate_left
     ·(intro w hSw; (try dsimp only at hSw); simp only [List.getElem_toArray, List.getElem_cons_zero, List.getElem_cons_succ]; go_simp; first | done | with_reducible rfl)
     simp only [List.getElem_toArray, List.getElem_cons_zero, List.getElem_cons_succ, Act.put, List.setIfInBounds_toArray, List.set_cons_zero, List.set_cons_succ]
     refine wpAnyH_take (i := 6) (v := ?_) rfl (by kernel_rfl) (by kernel_rfl) (by kernel_rfl) (fun _ _ _ h => h) (Or.inl ⟨by rfl, ?_⟩) (by assumption) ?_
     rotate_left
     ·(intro w hSw; (try dsimp only at hSw); simp only [List.getElem_toArray, List.getElem_cons_zero, List.getElem_cons_succ]; go_simp; first | done | with_reducible rfl)
     simp only [List.getElem_toArray, List.getElem_cons_zero, List.getElem_cons_succ, Act.put, List.setIfInBounds_toArray, List.set_cons_zero, List.set_cons_succ]
     refine wpAnyH_ready (rs := [3]) (by kernel_rfl) (by simp) ?_
     refine AllReadyH.cons rfl (fun K hK => ?_) AllReadyH.nil
     simp only [List.getElem_toArray, List.getElem_cons_zero, List.getElem_cons_succ]
     go_simp
     refine (CSH.out _).mono ?_
     rintro e wx ⟨rfl, rfl⟩
     dsimp only
     refine hK.out _ _ ?_ (fun hHeld => ?_)
     ·exact hHeld
     clear hK K
     try simp only [Act.put, List.setIfInBounds_toArray, List.set_cons_zero, List.set_cons_succ]
     refine wpAnyH_ready (rs := [7]) (by kernel_rfl) (by simp) ?_
     refine AllReadyH.cons rfl (fun K hK => ?_) AllReadyH.nil
     simp only [List.getElem_toArray, List.getElem_cons_zero, List.getElem_cons_succ]
     go_simp
     refine (CU2.out _ (bthen HM.out.below hHeld)).mono ?_
     rintro e w7 ⟨v7, q7, code, rfl, hb7, hP7⟩
     dsimp only
     refine hK.out _ _ ?_ (fun hHeld => ?_)
     ·exact bthen hHeld hb7
     clear hK K
     try simp only [Act.put, List.setIfInBounds_toArray, List.set_cons_zero, List.set_cons_succ]
     refine wpAnyH_take (i := 8) (v := ?_) rfl (by kernel_rfl) (by kernel_rfl) (by kernel_rfl) (fun _ _ _ h => h) (Or.inl ⟨by rfl, ?_⟩) (by assumption) ?_
     rotate_left
     ·(intro w hSw; (try dsimp only at hSw); simp only [List.getElem_toArray, List.getElem_cons_zero, List.getElem_cons_succ]; go_simp; first | done | with_reducible rfl)
     simp only [List.getElem_toArray, List.getElem_cons_zero, List.getElem_cons_succ, Act.put, List.setIfInBounds_toArray, List.set_cons_zero, List.set_cons_succ]
     refine wpAnyH_take (i := 9) (v := ?_) rfl (by kernel_rfl) (by kernel_rfl) (by kernel_rfl) (fun _ _ _ h => h) (Or.inl ⟨by rfl, ?_⟩) (by assumption) ?_
     rotate_left
     ·(intro w hSw; (try dsimp only at hSw); simp only [List.getElem_toArray, List.getElem_cons_zero, List.getElem_cons_succ]; go_simp; first | done | with_reducible rfl)
     simp only [List.getElem_toArray, List.getElem_cons_zero, List.getElem_cons_succ, Act.put, List.setIfInBounds_toArray, List.set_cons_zero, List.set_cons_succ]
     refine wpAnyH_take (i := 10) (v := ?_) rfl (by kernel_rfl) (by kernel_rfl) (by kernel_rfl) (fun _ _ _ h => h) (Or.inl ⟨by rfl, ?_⟩) (by assumption) ?_
     rotate_left
     ·(intro w hSw; (try dsimp only at hSw); simp only [List.getElem_toArray, List.getElem_cons_zero, List.getElem_cons_succ]; go_simp; first | done | with_reducible rfl)
     simp only [List.getElem_toArray, List.getElem_cons_zero, List.getElem_cons_succ, Act.put, List.setIfInBounds_toArray, List.set_cons_zero, List.set_cons_succ]
     refine wpAnyH_take (i := 11) (v := ?_) rfl (by kernel_rfl) (by kernel_rfl) (by kernel_rfl) (fun _ _ _ h => h) (Or.inl ⟨by rfl, ?_⟩) (by assumption) ?_
     rotate_left
     ·(intro w hSw; (try dsimp only at hSw); simp only [List.getElem_toArray, List.getElem_cons_zero, List.getElem_cons_succ]; go_simp; first | done | with_reducible rfl)
     simp only [List.getElem_toArray, List.getElem_cons_zero, List.getElem_cons_succ, Act.put, List.setIfInBounds_toArray, List.set_cons_zero, List.set_cons_succ]
     refine wpAnyH_take (i := 12) (v := ?_) rfl (by kernel_rfl) (by kernel_rfl) (by kernel_rfl) (fun _ _ _ h => h) (Or.inl ⟨by rfl, ?_⟩) (by assumption) ?_
     rotate_left
     ·(intro w hSw; (try dsimp only at hSw); simp only [List.getElem_toArray, List.getElem_cons_zero, List.getElem_cons_succ]; go_simp; first | done | with_reducible rfl)
     simp only [List.getElem_toArray, List.getElem_cons_zero, List.getElem_cons_succ, Act.put, List.setIfInBounds_toArray, List.set_cons_zero, List.set_cons_succ]
     refine wpAnyH_take (i := 13) (v := ?_) rfl (by kernel_rfl) (by kernel_rfl) (by kernel_rfl) (fun _ _ _ h => h) (Or.inl ⟨by rfl, ?_⟩) (by assumption) ?_
     rotate_left
     ·(intro w hSw; (try dsimp only at hSw); simp only [List.getElem_toArray, List.getElem_cons_zero, List.getElem_cons_succ]; go_simp; first | done | with_reducible rfl)
     simp only [List.getElem_toArray, List.getElem_cons_zero, List.getElem_cons_succ, Act.put, List.setIfInBounds_toArray, List.set_cons_zero, List.set_cons_succ]
     refine wpAnyH_take (i := 14) (v := ?_) rfl (by kernel_rfl) (by kernel_rfl) (by kernel_rfl) (fun _ _ _ h => h) (Or.inl ⟨by rfl, ?_⟩) (by assumption) ?_
     rotate_left
     ·(intro w hSw; (try dsimp only at hSw); simp only [List.getElem_toArray, List.getElem_cons_zero, List.getElem_cons_succ]; go_simp; first | done | with_reducible rfl)
     simp only [List.getElem_toArray, List.getElem_cons_zero, List.getElem_cons_succ, Act.put, List.setIfInBounds_toArray, List.set_cons_zero, List.set_cons_succ]
     refine wpAnyH_done (by kernel_rfl) ?_ _
     have HM7 := Lib.hid (HM.out.mono hHeld)
     clear hHeld hb7 hcut2
     rcases hP7 with ⟨hu7, rfl⟩ | ⟨rfl, cs7, hu7, hrow7⟩
     ·have HE : Hid (ofM bs = none) := Lib.hid (HO.out.no HGET.out (by rw [HKK.out]; exact hu7))
      clear hu7
      have HBB := Lib.hid HM7.out.below
      have HXB := Lib.hid HM7.out.rb
      have HNB := Lib.hid HM7.out.nb
      obtain ⟨WB, hWB⟩ : ∃ W, W = w7 := ⟨_, rfl⟩
      subst hWB
      have HRN : Hid (WB.rangeAt (w.heap.size + 1) 0 zM) := Lib.hid (fun j u hj => by
       rw [Nat.zero_add]
       exact cellIs HNB.out (by simpa using hj))
      have HTH : Hid (WB.there w.heap.size 0 290) := Lib.hid (there_of HXB.out (by rw [List.size_toArray]; exact zM_len))
      have HFIN : Hid (Below w.heap.size w (WB.setCells w.heap.size 0 zM)) := Lib.hid (belowSetC (Nat.le_refl _) _ _ _ HBB.out)
      go_wp2_with (first
       | (refine wpList_load_mid rfl 80 _ rfl (w.heap.size + 1) 0 rfl zM _ HRN.out Tryz.underlying80 rfl (by exact infoZM) ?_)
       | (refine wpList_store_mid rfl 80 _ _ rfl w.heap.size 0 zM.toArray rfl rfl HTH.out infoZM oneZM ?_))
      exact bodyPost_ret (v := .tuple #[.agg zM.toArray, .bool false]) (resMt rfl _ _ _ _ rfl rfl zM_len HTH.out) rfl (ROMfP.none_of HE.out rfl HFIN.out)
     ·obtain ⟨hst, hql⟩ := HO.out.step HGET.out HNC.out (by rw [HKK.out]; exact hu7)
      rw [HN.out] at hql
      have HST := Lib.hid hst
      have HU7 := Lib.hid hu7
      obtain ⟨t1, t2, hbm, ho1, ho2⟩ := HM7.out.bx
      have hdm := HO.out.ok.item.data
      have HCP : Hid (∀ X, Below w7.heap.size w7 X → Calls Tryz.prog 54 #[.agg (msL m t1 t2).toArray, .int .u8 ((s[pos]'hlt).toNat : Int), v7] X (RPutP w0 X (getM m ((s[pos]'hlt).toNat : Int) (cs7.map Prod.fst)) (okC (s[pos]'hlt) (cs7.map Prod.fst)))) := Lib.hid (fun X hX => rput_any m (s[pos]'hlt) HNC.out HNE.out (k := (kk : Int)) (bs := bs.drop at') hu7 (by rw [HDL.out]; omega) t1 t2 v7 w0 X _ (bthen HBW.out (bthen HM7.out.below hX)) ho1 ho2 hdm (hrow7.below hX))
      obtain ⟨CL, hCL, hcl⟩ : ∃ L, msL m t1 t2 = L ∧ L.length = 290 := ⟨_, rfl, msL_len hdm⟩
      unfold BM at hbm
      rw [hCL] at hbm HCP
      have HRC : Hid (∀ X, Below w7.heap.size w7 X → X.rangeAt P 0 CL) := Lib.hid (fun X hX j z hj => by
       rw [Nat.zero_add]
       exact cellIs ((hX.block _ (Array.getElem?_eq_some_iff.1 hbm).1).trans hbm) (by simpa using hj))
      have HIC : Hid ((Tryz.prog.info? 80).map (·.size) = some CL.length) := Lib.hid (by rw [hcl]; exact infoMs)
      have hwa : IntKind.i64.wrap ((at' : Int) + (q7 : Int)) = ((at' + q7 : Nat) : Int) := by
       rw [Int.natCast_add]
       exact IntWalk.i64_in _ (by omega)
      have HWA := Lib.hid hwa
      have HMK2 : Hid (nmM (getM m ((s[pos]'hlt).toNat : Int) (cs7.map Prod.fst)).k = ks) := Lib.hid (by rw [(getM_k _ _ _).1]; exact HMK.out)
      have HBAD : Hid (okC (s[pos]'hlt) (cs7.map Prod.fst) = false → ofM bs = none) := Lib.hid (fun h => by
       have hg := HGET.out
       have ho := HO.out
       rw [← HMK.out] at hg ho
       exact ho.bad hg (by rw [HKK.out]; exact HU7.out) (okC_bad h m))
      clear hu7 hrow7 hst hbm ho1 ho2 hdm hCL hcl hwa
      obtain ⟨m7, hm7⟩ : ∃ x, getM m ((s[pos]'hlt).toNat : Int) (cs7.map Prod.fst) = x := ⟨_, rfl⟩
      rw [hm7] at HST HCP HMK2
      obtain ⟨y7, hy7⟩ : ∃ x, okC (s[pos]'hlt) (cs7.map Prod.fst) = x := ⟨_, rfl⟩
      rw [hy7] at HCP HBAD
      clear hm7 hy7 HU7
      go_upto_region 19 with fail
      go_cut [17, 18] (fun p y wx => ∃ (W : World) (N : Nat) (z1 z2 : Value), W = wx ∧ p = .pointer (some ⟨N, 0, none⟩) ∧ y = .bool y7 ∧ RMf P w0 w m W ∧ W.heap[N]? = some (.cells (msL m7 z1 z2).toArray 80 (0, 0)) ∧ P < N ∧ Rd w0 1 z1 m7.op.data.length (bV m7.op.data) ∧ Rd w0 1 z2 m7.item.op.data.length (bV m7.item.op.data))
      case first =>
       have hd7 : Below w7.heap.size w7 w7.drew := (Below.refl _ w7).drew
       refine wp_region_held_drew (S := fun X => Below w7.heap.size w7 X) (by kernel_rfl) hd7 (fun hHeld => ?_)
       clear hd7
       have hl7 : ∀ {z1 z2 : Value}, (msL m7 z1 z2).length = 290 := msL_len HST.out.ok.item.data
       have hP7 := HM7.out.lt.2.2
       refine wpAnyH_take (i := 0) (v := _) rfl (by kernel_rfl) (by kernel_rfl) (by kernel_rfl) (fun _ _ _ h => h) (yieldsIf_load_mid (by rfl) 80 _ rfl (P) (0) rfl (CL) _ (fun w hw => HRC.out w hw) (Tryz.underlying80) rfl (HIC.out)) (by assumption) ?_
       simp only [List.getElem_toArray, List.getElem_cons_zero, List.getElem_cons_succ, Act.put, List.setIfInBounds_toArray, List.set_cons_zero, List.set_cons_succ]
       refine wpAnyH_take (i := 1) (v := ?_) rfl (by kernel_rfl) (by kernel_rfl) (by kernel_rfl) (fun _ _ _ h => h) (Or.inl ⟨by rfl, ?_⟩) (by assumption) ?_
       rotate_left
       ·(intro w hSw; (try dsimp only at hSw); simp only [List.getElem_toArray, List.getElem_cons_zero, List.getElem_cons_succ]; go_simp; first | done | with_reducible rfl)
       simp only [List.getElem_toArray, List.getElem_cons_zero, List.getElem_cons_succ, Act.put, List.setIfInBounds_toArray, List.set_cons_zero, List.set_cons_succ]
       refine wpAnyH_take (i := 2) (v := ?_) rfl (by kernel_rfl) (by kernel_rfl) (by kernel_rfl) (fun _ _ _ h => h) (Or.inl ⟨by rfl, ?_⟩) (by assumption) ?_
       rotate_left
       ·(intro w hSw; (try dsimp only at hSw); simp only [List.getElem_toArray, List.getElem_cons_zero, List.getElem_cons_succ]; go_simp; first | done | with_reducible rfl)
       simp only [List.getElem_toArray, List.getElem_cons_zero, List.getElem_cons_succ, Act.put, List.setIfInBounds_toArray, List.set_cons_zero, List.set_cons_succ]
       refine wpAnyH_take (i := 3) (v := ?_) rfl (by kernel_rfl) (by kernel_rfl) (by kernel_rfl) (fun _ _ _ h => h) (Or.inl ⟨by rfl, ?_⟩) (by assumption) ?_
       rotate_left
       ·(intro w hSw; (try dsimp only at hSw); simp only [List.getElem_toArray, List.getElem_cons_zero, List.getElem_cons_succ]; go_simp; first | done | with_reducible rfl)
       simp only [List.getElem_toArray, List.getElem_cons_zero, List.getElem_cons_succ, Act.put, List.setIfInBounds_toArray, List.set_cons_zero, List.set_cons_succ]
       refine wpAnyH_take (i := 4) (v := ?_) rfl (by kernel_rfl) (by kernel_rfl) (by kernel_rfl) (fun _ _ _ h => h) (Or.inl ⟨by rfl, ?_⟩) (by assumption) ?_
       rotate_left
       ·(intro w hSw; (try dsimp only at hSw); simp only [List.getElem_toArray, List.getElem_cons_zero, List.getElem_cons_succ]; go_simp; first | done | with_reducible rfl)
       simp only [List.getElem_toArray, List.getElem_cons_zero, List.getElem_cons_succ, Act.put, List.setIfInBounds_toArray, List.set_cons_zero, List.set_cons_succ]
       refine wpAnyH_ready (rs := [5, 9]) (by kernel_rfl) (by simp) ?_
       refine AllReadyH.cons rfl (fun K hK => ?_) (AllReadyH.cons rfl (fun K hK => ?_) (AllReadyH.nil))
       ·simp only [List.getElem_toArray, List.getElem_cons_zero, List.getElem_cons_succ]
        go_simp
        refine (HCP.out _ hHeld).mono ?_
        rintro e w8 ⟨hb8, z1, z2, rfl, hz1, hz2⟩
        dsimp only
        refine hK.out _ _ ?_ (fun hHeld => ?_)
        ·exact bthen hHeld hb8
        clear hK K
        try simp only [Act.put, List.setIfInBounds_toArray, List.set_cons_zero, List.set_cons_succ]
        refine wpAnyH_take (i := 6) (v := ?_) rfl (by kernel_rfl) (by kernel_rfl) (by kernel_rfl) (fun _ _ _ h => h) (Or.inl ⟨by rfl, ?_⟩) (by assumption) ?_
        rotate_left
        ·(intro w hSw; (try dsimp only at hSw); simp only [List.getElem_toArray, List.getElem_cons_zero, List.getElem_cons_succ]; go_simp; first | done | with_reducible rfl)
        simp only [List.getElem_toArray, List.getElem_cons_zero, List.getElem_cons_succ, Act.put, List.setIfInBounds_toArray, List.set_cons_zero, List.set_cons_succ]
        refine wpAnyH_take (i := 7) (v := ?_) rfl (by kernel_rfl) (by kernel_rfl) (by kernel_rfl) (fun _ _ _ h => h) (Or.inl ⟨by rfl, ?_⟩) (by assumption) ?_
        rotate_left
        ·(intro w hSw; (try dsimp only at hSw); simp only [List.getElem_toArray, List.getElem_cons_zero, List.getElem_cons_succ]; go_simp; first | done | with_reducible rfl)
        simp only [List.getElem_toArray, List.getElem_cons_zero, List.getElem_cons_succ, Act.put, List.setIfInBounds_toArray, List.set_cons_zero, List.set_cons_succ]
        refine wpAnyH_take (i := 8) (v := ?_) rfl (by kernel_rfl) (by kernel_rfl) (by kernel_rfl) (fun _ _ _ h => h) (Or.inl ⟨by rfl, ?_⟩) (by assumption) ?_
        rotate_left
        ·(intro w hSw; (try dsimp only at hSw); simp only [List.getElem_toArray, List.getElem_cons_zero, List.getElem_cons_succ]; go_simp; first | done | with_reducible rfl)
        simp only [List.getElem_toArray, List.getElem_cons_zero, List.getElem_cons_succ, Act.put, List.setIfInBounds_toArray, List.set_cons_zero, List.set_cons_succ]
        have hx9 : (w8.alloc (.cells Tryz.zeroCells80 80)).heap[w8.heap.size]? = some (.cells zM.toArray 80 (0, 0)) := by
         rw [← zM_eq]
         exact heap_alloc_new w8 _
        refine wpAnyH_ready (rs := [9]) (by kernel_rfl) (by simp) ?_
        refine AllReadyH.cons rfl (fun K hK => ?_) AllReadyH.nil
        simp only [List.getElem_toArray, List.getElem_cons_zero, List.getElem_cons_succ]
        go_simp
        refine hK.out _ _ ?_ (fun hHeld => ?_)
        ·exact balloc hHeld _
        clear hK K
        try simp only [Act.put, List.setIfInBounds_toArray, List.set_cons_zero, List.set_cons_succ]
        have hn9 : P < w8.heap.size := Nat.lt_of_lt_of_le hP7 (bthen (Below.refl _ w7).drew hb8).size
        have hth9 := there_mid (N := 290) (o := 0) (n := (msL m7 z1 z2).toArray.size) hx9 (by rw [List.size_toArray]; exact zM_len) (by rw [List.size_toArray, hl7]; omega)
        have hb9 := belowSetC (b := w8.heap.size) (bthen (Below.refl _ w7).drew hb8).size (msL m7 z1 z2) 0 _ hHeld
        refine wpAnyH_ready (rs := [10]) (by kernel_rfl) (by simp) ?_
        refine AllReadyH.cons rfl (fun K hK => ?_) AllReadyH.nil
        simp only [List.getElem_toArray, List.getElem_cons_zero, List.getElem_cons_succ]
        rw [if_pos (by rfl)]
        refine wp_store_mid 80 _ _ rfl w8.heap.size 0 (msL m7 z1 z2).toArray rfl rfl hth9 (by rw [List.size_toArray, hl7]; exact infoMs) (all_oneL (msL_one (rdOne hz1) (rdOne hz2))) ?_
        refine hK.out _ _ hb9 (fun hHeld => ?_)
        clear hK K
        simp only [Act.put, List.setIfInBounds_toArray, List.set_cons_zero, List.set_cons_succ]
        refine wpAnyH_take (i := 11) (v := ?_) rfl (by kernel_rfl) (by kernel_rfl) (by kernel_rfl) (fun _ _ _ h => h) (Or.inl ⟨by rfl, ?_⟩) (by assumption) ?_
        rotate_left
        ·(intro w hSw; (try dsimp only at hSw); simp only [List.getElem_toArray, List.getElem_cons_zero, List.getElem_cons_succ]; go_simp; first | done | with_reducible rfl)
        simp only [List.getElem_toArray, List.getElem_cons_zero, List.getElem_cons_succ, Act.put, List.setIfInBounds_toArray, List.set_cons_zero, List.set_cons_succ]
        refine wpAnyH_done (by kernel_rfl) ?_ _
        go_wp2_with fail
        go_meet
        exact ⟨_, w8.heap.size, z1, z2, rfl, rfl, rfl, HM7.out.mono hb9, set_whole hx9 (by rw [zM_len, hl7]), hn9, hz1, hz2⟩
       ·simp only [List.getElem_toArray, List.getElem_cons_zero, List.getElem_cons_succ]
        go_simp
        refine hK.out _ _ ?_ (fun hHeld => ?_)
        ·exact balloc hHeld _
        clear hK K
        try simp only [Act.put, List.setIfInBounds_toArray, List.set_cons_zero, List.set_cons_succ]
        have hx8 : (w7.alloc (.cells Tryz.zeroCells80 80)).drew.heap[w7.heap.size]? = some (.cells zM.toArray 80 (0, 0)) := by
         rw [← zM_eq]
         exact heap_alloc_new w7 _
        refine wpAnyH_ready (rs := [5]) (by kernel_rfl) (by simp) ?_
        refine AllReadyH.cons rfl (fun K hK => ?_) AllReadyH.nil
        simp only [List.getElem_toArray, List.getElem_cons_zero, List.getElem_cons_succ]
        go_simp
        refine (HCP.out _ hHeld).mono ?_
        rintro e w8 ⟨hb8, z1, z2, rfl, hz1, hz2⟩
        dsimp only
        refine hK.out _ _ ?_ (fun hHeld => ?_)
        ·exact bthen hHeld hb8
        clear hK K
        try simp only [Act.put, List.setIfInBounds_toArray, List.set_cons_zero, List.set_cons_succ]
        refine wpAnyH_take (i := 6) (v := ?_) rfl (by kernel_rfl) (by kernel_rfl) (by kernel_rfl) (fun _ _ _ h => h) (Or.inl ⟨by rfl, ?_⟩) (by assumption) ?_
        rotate_left
        ·(intro w hSw; (try dsimp only at hSw); simp only [List.getElem_toArray, List.getElem_cons_zero, List.getElem_cons_succ]; go_simp; first | done | with_reducible rfl)
        simp only [List.getElem_toArray, List.getElem_cons_zero, List.getElem_cons_succ, Act.put, List.setIfInBounds_toArray, List.set_cons_zero, List.set_cons_succ]
        refine wpAnyH_take (i := 7) (v := ?_) rfl (by kernel_rfl) (by kernel_rfl) (by kernel_rfl) (fun _ _ _ h => h) (Or.inl ⟨by rfl, ?_⟩) (by assumption) ?_
        rotate_left
        ·(intro w hSw; (try dsimp only at hSw); simp only [List.getElem_toArray, List.getElem_cons_zero, List.getElem_cons_succ]; go_simp; first | done | with_reducible rfl)
        simp only [List.getElem_toArray, List.getElem_cons_zero, List.getElem_cons_succ, Act.put, List.setIfInBounds_toArray, List.set_cons_zero, List.set_cons_succ]
        refine wpAnyH_take (i := 8) (v := ?_) rfl (by kernel_rfl) (by kernel_rfl) (by kernel_rfl) (fun _ _ _ h => h) (Or.inl ⟨by rfl, ?_⟩) (by assumption) ?_
        rotate_left
        ·(intro w hSw; (try dsimp only at hSw); simp only [List.getElem_toArray, List.getElem_cons_zero, List.getElem_cons_succ]; go_simp; first | done | with_reducible rfl)
        simp only [List.getElem_toArray, List.getElem_cons_zero, List.getElem_cons_succ, Act.put, List.setIfInBounds_toArray, List.set_cons_zero, List.set_cons_succ]
        have hx9 := (hb8.block _ (Array.getElem?_eq_some_iff.1 hx8).1).trans hx8
        have hb9 := belowSetC (b := w7.heap.size) (Nat.le_refl _) (msL m7 z1 z2) 0 _ hHeld
        have hn9 : P < w7.heap.size := hP7
        have hth9 := there_mid (N := 290) (o := 0) (n := (msL m7 z1 z2).toArray.size) hx9 (by rw [List.size_toArray]; exact zM_len) (by rw [List.size_toArray, hl7]; omega)
        refine wpAnyH_ready (rs := [10]) (by kernel_rfl) (by simp) ?_
        refine AllReadyH.cons rfl (fun K hK => ?_) AllReadyH.nil
        simp only [List.getElem_toArray, List.getElem_cons_zero, List.getElem_cons_succ]
        rw [if_pos (by rfl)]
        refine wp_store_mid 80 _ _ rfl w7.heap.size 0 (msL m7 z1 z2).toArray rfl rfl hth9 (by rw [List.size_toArray, hl7]; exact infoMs) (all_oneL (msL_one (rdOne hz1) (rdOne hz2))) ?_
        refine hK.out _ _ hb9 (fun hHeld => ?_)
        clear hK K
        simp only [Act.put, List.setIfInBounds_toArray, List.set_cons_zero, List.set_cons_succ]
        refine wpAnyH_take (i := 11) (v := ?_) rfl (by kernel_rfl) (by kernel_rfl) (by kernel_rfl) (fun _ _ _ h => h) (Or.inl ⟨by rfl, ?_⟩) (by assumption) ?_
        rotate_left
        ·(intro w hSw; (try dsimp only at hSw); simp only [List.getElem_toArray, List.getElem_cons_zero, List.getElem_cons_succ]; go_simp; first | done | with_reducible rfl)
        simp only [List.getElem_toArray, List.getElem_cons_zero, List.getElem_cons_succ, Act.put, List.setIfInBounds_toArray, List.set_cons_zero, List.set_cons_succ]
        refine wpAnyH_done (by kernel_rfl) ?_ _
        go_wp2_with fail
        go_meet
        exact ⟨_, w7.heap.size, z1, z2, rfl, rfl, rfl, HM7.out.mono hb9, set_whole hx9 (by rw [zM_len, hl7]), hn9, hz1, hz2⟩
      case rest =>
       obtain ⟨w8, N, z1, z2, rfl, rfl, rfl, hrm, hN, hPN, hz1, hz2⟩ := hcut
       have HM8 := Lib.hid hrm
       cases y7 with
       | false =>
        have HE : Hid (ofM bs = none) := Lib.hid (HBAD.out rfl)
        have HBB := Lib.hid HM8.out.below
        have HXB := Lib.hid HM8.out.rb
        have HNB := Lib.hid HM8.out.nb
        obtain ⟨WB, hWB⟩ : ∃ W, W = w8 := ⟨_, rfl⟩
        subst hWB
        clear hrm hN hz1 hz2
        have HRN : Hid (WB.rangeAt (w.heap.size + 1) 0 zM) := Lib.hid (fun j u hj => by
         rw [Nat.zero_add]
         exact cellIs HNB.out (by simpa using hj))
        have HTH : Hid (WB.there w.heap.size 0 290) := Lib.hid (there_of HXB.out (by rw [List.size_toArray]; exact zM_len))
        have HFIN : Hid (Below w.heap.size w (WB.setCells w.heap.size 0 zM)) := Lib.hid (belowSetC (Nat.le_refl _) _ _ _ HBB.out)
        go_wp2_with (first
         | (refine wpList_load_mid rfl 80 _ rfl (w.heap.size + 1) 0 rfl zM _ HRN.out Tryz.underlying80 rfl (by exact infoZM) ?_)
         | (refine wpList_store_mid rfl 80 _ _ rfl w.heap.size 0 zM.toArray rfl rfl HTH.out infoZM oneZM ?_))
        exact bodyPost_ret (v := .tuple #[.agg zM.toArray, .bool false]) (resMt rfl _ _ _ _ rfl rfl zM_len HTH.out) rfl (ROMfP.none_of HE.out rfl HFIN.out)
       | true =>
        have HM9 := Lib.hid (HM8.out.store HO.out.ok.item.data HST.out.ok.item.data hz1 hz2)
        obtain ⟨DL, hDL, hdl, hdo⟩ : ∃ L, msL m7 z1 z2 = L ∧ L.length = 290 ∧ L.toArray.all (·.oneCell') = true := ⟨_, rfl, msL_len HST.out.ok.item.data, all_oneL (msL_one (rdOne hz1) (rdOne hz2))⟩
        rw [hDL] at HM9 hN
        have HRD : Hid (w8.rangeAt N 0 DL) := Lib.hid (fun j z hj => by
         rw [Nat.zero_add]
         exact cellIs hN (by simpa using hj))
        have HT8 : Hid (w8.there P 0 DL.toArray.size) := Lib.hid (by
         obtain ⟨t1, t2, hbm, _⟩ := HM8.out.bx
         exact there_mid (N := 290) hbm (by rw [List.size_toArray]; exact msL_len HO.out.ok.item.data) (by rw [List.size_toArray, hdl]; omega))
        have HI8 : Hid ((Tryz.prog.info? 80).map (·.size) = some DL.length) := Lib.hid (by rw [hdl]; exact infoMs)
        have HI9 : Hid ((Tryz.prog.info? 80).map (·.size) = some DL.toArray.size) := Lib.hid (by rw [List.size_toArray, hdl]; exact infoMs)
        have HO8 := Lib.hid hdo
        have hwa := HWA.out
        clear hrm hN hz1 hz2 hDL hdl hdo
        go_wp2_with (first
         | (refine wpList_load_mid rfl 80 _ rfl N 0 rfl DL _ HRD.out Tryz.underlying80 rfl HI8.out ?_)
         | (refine wpList_store_mid rfl 80 _ _ rfl P 0 DL.toArray rfl rfl HT8.out HI9.out HO8.out ?_))
        go_roundg (s.size - (pos + 1))
        case rel => exact ⟨pos + 1, at' + q7, _, by omega, rfl, rfl, rfl, HST.out, HMK2.out, HM9.out⟩
        case measure => have := HG.out; omega
   ·obtain rfl : pos = s.size := by omega
    have HFN := Lib.hid (HO.out.fin (by rw [← HSS.out]; exact Nat.le_refl _))
    obtain ⟨t1, t2, hbm, ho1, ho2⟩ := HM.out.bx
    have hok := HO.out.ok
    have hsm1 := HO.out.sm.op
    have hsm2 := HO.out.sm.item
    rw [HN.out] at hsm1 hsm2
    have CM := rmayM_any m hok (by omega) (by omega) t1 t2 wr (ho1.below (bthen HBW.out HM.out.below)) (ho2.below (bthen HBW.out HM.out.below))
    obtain ⟨CL, hCL, hcl, hco⟩ : ∃ L, msL m t1 t2 = L ∧ L.length = 290 ∧ L.toArray.all (·.oneCell') = true := ⟨_, rfl, msL_len hok.item.data, all_oneL (msL_one (rdOne ho1) (rdOne ho2))⟩
    unfold BM at hbm
    rw [hCL] at hbm CM
    have HCL := Lib.hid hCL
    have HBM := Lib.hid hbm
    have HRC : Hid (wr.rangeAt P 0 CL) := Lib.hid (fun j z hj => by
     rw [Nat.zero_add]
     exact cellIs HBM.out (by simpa using hj))
    have HIC : Hid ((Tryz.prog.info? 80).map (·.size) = some CL.length) := Lib.hid (by rw [hcl]; exact infoMs)
    have HIC2 : Hid ((Tryz.prog.info? 80).map (·.size) = some CL.toArray.size) := Lib.hid (by rw [List.size_toArray, hcl]; exact infoMs)
    have HCO := Lib.hid (And.intro hcl hco)
    have HOW := Lib.hid (And.intro ho1 ho2)
    clear hok hCL hcl hco hbm ho1 ho2 hsm1 hsm2
    by_cases hq : at' = n
    ·have HFN2 : Hid (ofM bs = if mayM m = true then some m else none) := Lib.hid (by
      rw [HFN.out, HN.out]
      simp only [hq, true_and])
     have hqn : ((at' : Int) != (n : Int)) = false := by rw [bne_eq_false_iff_eq]; omega
     obtain ⟨y, hy⟩ : ∃ y, mayM m = y := ⟨_, rfl⟩
     rw [hy] at CM HFN2
     have HCM := Lib.hid CM
     clear CM hq hy
     go_wp2_with (refine wpList_load_met (by kernel_rfl) 80 _ rfl P 0 rfl CL _ HRC.out Tryz.underlying80 rfl HIC.out ?_)
     refine HCM.out.mono ?_
     rintro e WB ⟨rfl, hbw⟩
     have HMB := Lib.hid (HM.out.mono hbw)
     have HBB := Lib.hid HMB.out.below
     have HXB := Lib.hid HMB.out.rb
     have HNB := Lib.hid HMB.out.nb
     have HRB : Hid (WB.rangeAt P 0 CL) := Lib.hid (rangeAt_below HRC.out HM.out.lt.2.2 hbw)
     clear hbw hqn
     cases y with
     | false =>
      have HE : Hid (ofM bs = none) := Lib.hid (by rw [HFN2.out]; rfl)
      have HRN : Hid (WB.rangeAt (w.heap.size + 1) 0 zM) := Lib.hid (fun j u hj => by
       rw [Nat.zero_add]
       exact cellIs HNB.out (by simpa using hj))
      have HTH : Hid (WB.there w.heap.size 0 290) := Lib.hid (there_of HXB.out (by rw [List.size_toArray]; exact zM_len))
      have HFIN : Hid (Below w.heap.size w (WB.setCells w.heap.size 0 zM)) := Lib.hid (belowSetC (Nat.le_refl _) _ _ _ HBB.out)
      go_wp2_with (first
       | (refine wpList_load_mid rfl 80 _ rfl (w.heap.size + 1) 0 rfl zM _ HRN.out Tryz.underlying80 rfl (by exact infoZM) ?_)
       | (refine wpList_store_mid rfl 80 _ _ rfl w.heap.size 0 zM.toArray rfl rfl HTH.out infoZM oneZM ?_))
      exact bodyPost_ret (v := .tuple #[.agg zM.toArray, .bool false]) (resMt rfl _ _ _ _ rfl rfl zM_len HTH.out) rfl (ROMfP.none_of HE.out rfl HFIN.out)
     | true =>
      have HE : Hid (ofM bs = some m) := Lib.hid (by rw [HFN2.out]; rfl)
      have HTH : Hid (WB.there w.heap.size 0 290) := Lib.hid (there_of HXB.out (by rw [List.size_toArray]; exact zM_len))
      have HTH2 : Hid (WB.there w.heap.size 0 CL.toArray.size) := Lib.hid (by rw [show CL.toArray.size = 290 by rw [List.size_toArray]; exact HCO.out.1]; exact HTH.out)
      have HFIN : Hid (Below w.heap.size w (WB.setCells w.heap.size 0 CL)) := Lib.hid (belowSetC (Nat.le_refl _) _ _ _ HBB.out)
      go_wp2_with (first
       | (refine wpList_load_mid rfl 80 _ rfl P 0 rfl CL _ HRB.out Tryz.underlying80 rfl HIC.out ?_)
       | (refine wpList_store_mid rfl 80 _ _ rfl w.heap.size 0 CL.toArray rfl rfl HTH2.out HIC2.out HCO.out.2 ?_))
      exact bodyPost_ret (v := .tuple #[.agg CL.toArray, .bool true]) (resMt rfl _ _ _ _ rfl rfl HCO.out.1 HTH.out) rfl (ROMfP.some_of HE.out (by rw [HCL.out]) HOW.out.1 HOW.out.2 HFIN.out)
    ·have HE : Hid (ofM bs = none) := Lib.hid (by rw [HFN.out, HN.out, if_neg (fun h => hq h.1)])
     have hqn : ((at' : Int) != (n : Int)) = true := by rw [bne_iff_ne]; omega
     have HBB := Lib.hid HM.out.below
     have HXB := Lib.hid HM.out.rb
     have HNB := Lib.hid HM.out.nb
     obtain ⟨WB, hWB⟩ : ∃ W, W = wr := ⟨_, rfl⟩
     subst hWB
     clear CM hq
     have HRN : Hid (WB.rangeAt (w.heap.size + 1) 0 zM) := Lib.hid (fun j u hj => by
      rw [Nat.zero_add]
      exact cellIs HNB.out (by simpa using hj))
     have HTH : Hid (WB.there w.heap.size 0 290) := Lib.hid (there_of HXB.out (by rw [List.size_toArray]; exact zM_len))
     have HFIN : Hid (Below w.heap.size w (WB.setCells w.heap.size 0 zM)) := Lib.hid (belowSetC (Nat.le_refl _) _ _ _ HBB.out)
     go_wp2_with (first
      | (refine wpList_load_mid rfl 80 _ rfl (w.heap.size + 1) 0 rfl zM _ HRN.out Tryz.underlying80 rfl (by exact infoZM) ?_)
      | (refine wpList_store_mid rfl 80 _ _ rfl w.heap.size 0 zM.toArray rfl rfl HTH.out infoZM oneZM ?_))
     exact bodyPost_ret (v := .tuple #[.agg zM.toArray, .bool false]) (resMt rfl _ _ _ _ rfl rfl zM_len HTH.out) rfl (ROMfP.none_of HE.out rfl HFIN.out)
end Go.Proofs.YtgkelbdgdhkeoaaGreat
