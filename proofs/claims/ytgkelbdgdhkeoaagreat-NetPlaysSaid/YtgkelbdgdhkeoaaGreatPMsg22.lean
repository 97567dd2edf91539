/- kept of an item, and of any letter, walked. -/
import Derived.Test.YtgkelbdgdhkeoaaGreatPMsg6
import Derived.Test.YtgkelbdgdhkeoaaGreatPMsg13
namespace Go.Proofs.YtgkelbdgdhkeoaaGreat
open Go.RowKit
set_option linter.unusedVariables false
set_option linter.unusedSimpArgs false
open Wire Cmd
theorem there_at {w : World} {b o n N : Nat} {cs : Array Value} {t : TypeId} (h : w.heap[b]? = some (.cells cs t (0, 0))) (hn : cs.size = N) (ho : o + n ≤ N) : w.there b o n := fun j hj => by
 refine ⟨?_, frozenOf h (o + j)⟩
 rw [cell_of_row w b (o + j) _ _ _ h, Array.getElem?_eq_getElem (by omega)]; rfl
theorem all_one {l : List Value} (h : ∀ u ∈ l, u.oneCell' = true) : l.toArray.all (·.oneCell') = true := by
 rw [← Array.all_toList]
 exact List.all_eq_true.2 h
set_option maxRecDepth 100000 in
set_option maxHeartbeats 6400000 in
theorem kept_item (m : Ms0) (ok : m.Ok) (s1 s2 : Value) (b : Ms0) (P : Nat) (w0 w : World) (hb0 : Below w0.heap.size w0 w) (hP : BoxM w0 P b w) (hd2 : Rd w0 1 s2 m.item.op.data.length (bV m.item.op.data)) (hP0 : w0.heap.size ≤ P) (hbd : b.item.data.length = 256) :
  Calls Tryz.prog 62 #[.int .i32 105, .pointer (some ⟨P, 0, none⟩), .agg (msL m s1 s2).toArray] w (KeptP w0 w P (setM b 105 m) (kept 105 m)) := by
 obtain ⟨t1, t2, hx, hr1, hr2⟩ := hP
 have hone : s2.oneCell' = true := by obtain ⟨_, _, rfl, _⟩ := hd2; rfl
 have HD2 := Lib.hid hd2
 have HPL : Hid (P < w.heap.size) := Lib.hid (Array.getElem?_eq_some_iff.1 hx).1
 obtain ⟨AL, hAL⟩ : ∃ L, msL m s1 s2 = L := ⟨_, rfl⟩
 have HX0 : Hid ((w.alloc (.cells AL.toArray 80)).heap[P]? = some (.cells (msL b t1 t2).toArray 80 (0, 0))) := Lib.hid ((Below.heap_alloc _ _ _ HPL.out).trans hx)
 obtain ⟨IL, hIL⟩ : ∃ L, itL m.item s2 = L := ⟨_, rfl⟩
 have hil : IL.length = 268 := by rw [← hIL]; exact itL_len ok.item.data
 have HR1 : Hid ((w.alloc (.cells AL.toArray 80)).rangeAt w.heap.size 22 IL) := Lib.hid (by rw [← hIL]; exact (ms_at (m := m) (s1 := s1) (s2 := s2) (by rw [hAL]; exact range_new w _ AL)).r22)
 have HTH : Hid ((w.alloc (.cells AL.toArray 80)).there P 22 IL.toArray.size) := Lib.hid (by
  refine there_at (N := 290) HX0.out ?_ (by rw [List.size_toArray]; omega)
  rw [List.size_toArray]; exact msL_len hbd)
 have HR2 : Hid (((w.alloc (.cells AL.toArray 80)).setCells P 22 IL).rangeAt w.heap.size 22 IL) := Lib.hid (World.rangeAt_setCells_apart HR1.out P 22 IL (.inl (by have := HPL.out; omega)))
 have HII : Hid ((Tryz.prog.info? 78).map (·.size) = some IL.length) := Lib.hid (by rw [hil]; exact infoIt)
 have HIJ : Hid ((Tryz.prog.info? 78).map (·.size) = some IL.toArray.size) := Lib.hid (by rw [List.size_toArray, hil]; exact infoIt)
 have HON : Hid (IL.toArray.all (·.oneCell') = true) := Lib.hid (all_one (by rw [← hIL]; exact itL_one hone))
 have HB0 : Hid (Below w0.heap.size w0 ((w.alloc (.cells AL.toArray 80)).setCells P 22 IL)) := Lib.hid (belowSetC hP0 _ _ _ (balloc hb0 _))
 have HBX : Hid (BoxM w0 P { b with item := m.item } ((w.alloc (.cells AL.toArray 80)).setCells P 22 IL)) := Lib.hid (by
  rw [← hIL]
  exact BoxM.set (b' := { b with item := m.item }) (o := 22) (Y := itL m.item s2) HX0.out (msL_item b t1 t2) rfl (by rw [itL_len hbd, itL_len ok.item.data]) (msL_item _ t1 s2) hr1 hd2)
 have HMD : Hid (Mods [P] w ((w.alloc (.cells AL.toArray 80)).setCells P 22 IL)) := Lib.hid (mods_setCells IL 22 ((Mods.refl [P] w).alloc _))
 have CM : Hid (Calls Tryz.prog 91 #[.agg IL.toArray] ((w.alloc (.cells AL.toArray 80)).setCells P 22 IL) fun e w' => e = .returned (.bool (mayI m.item)) ∧ Below ((w.alloc (.cells AL.toArray 80)).setCells P 22 IL).heap.size ((w.alloc (.cells AL.toArray 80)).setCells P 22 IL) w') := Lib.hid (by
  rw [← hIL]
  have := mayI_any m.item ok.item s2 ((w.alloc (.cells AL.toArray 80)).setCells P 22 (itL m.item s2)) (HD2.out.below (by have := HB0.out; rw [← hIL] at this; exact this))
  exact this)
 rw [hAL]
 have hs : setM b 105 m = { b with item := m.item } := rfl
 have hk : kept 105 m = mayI m.item := rfl
 rw [hs, hk]
 clear hs hk hx hr1 hr2 hAL hIL hil hone hd2 ok hbd
 go_enter Tryz.func62, Tryz.ntmps62
 go_wp2_with (first
  | (refine wpList_load_mid rfl 78 _ rfl w.heap.size 22 rfl IL _ HR1.out Tryz.underlying78 rfl HII.out ?_)
  | (refine wpList_store_mid rfl 78 _ _ rfl P 22 IL.toArray rfl rfl HTH.out HIJ.out HON.out ?_)
  | (refine wpList_load_mid rfl 78 _ rfl w.heap.size 22 rfl IL _ HR2.out Tryz.underlying78 rfl HII.out ?_))
 refine CM.out.mono ?_
 rintro e w1 ⟨rfl, hb1⟩
 have HF := Lib.hid (HBX.out.mono hb1)
 have HG := Lib.hid (HMD.out.thenBelow hb1)
 clear hb1
 go_wp2_with fail
 go_ret
 exact ⟨rfl, HF.out, HG.out⟩
theorem kept_any (c : Int) (m : Ms0) (ok : m.Ok) (s1 s2 : Value) (b : Ms0) (P : Nat) (w0 w : World) (hb0 : Below w0.heap.size w0 w) (hP : BoxM w0 P b w) (hd1 : Rd w0 1 s1 m.op.data.length (bV m.op.data)) (hd2 : Rd w0 1 s2 m.item.op.data.length (bV m.item.op.data)) (hP0 : w0.heap.size ≤ P) (hbd : b.item.data.length = 256) :
  Calls Tryz.prog 62 #[.int .i32 c, .pointer (some ⟨P, 0, none⟩), .agg (msL m s1 s2).toArray] w (KeptP w0 w P (setM b c m) (kept c m)) := by
 by_cases h : c = 116 ∨ c = 108 ∨ c = 110 ∨ c = 115 ∨ c = 102 ∨ c = 109 ∨ c = 98
 ·exact kept_easy c m ok s1 s2 b P w0 w hb0 hP hd1 hd2 hbd h
 by_cases h1 : c = 111
 ·subst h1
  exact kept_op m ok s1 s2 b P w0 w hb0 hP hd1 hP0
 by_cases h2 : c = 105
 ·subst h2
  exact kept_item m ok s1 s2 b P w0 w hb0 hP hd2 hP0 hbd
 ·exact kept_other c m s1 s2 b P w0 w hP (by omega)
end Go.Proofs.YtgkelbdgdhkeoaaGreat
