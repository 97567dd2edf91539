/- kept of an operation, walked. -/
import Derived.Test.YtgkelbdgdhkeoaaGreatPMsg12
namespace Go.Proofs.YtgkelbdgdhkeoaaGreat
open Go.RowKit
set_option linter.unusedVariables false
set_option linter.unusedSimpArgs false
open Wire Cmd
set_option maxRecDepth 100000 in
set_option maxHeartbeats 6400000 in
theorem kept_op (m : Ms0) (ok : m.Ok) (s1 s2 : Value) (b : Ms0) (P : Nat) (w0 w : World) (hb0 : Below w0.heap.size w0 w) (hP : BoxM w0 P b w) (hd1 : Rd w0 1 s1 m.op.data.length (bV m.op.data)) (hP0 : w0.heap.size ≤ P) :
  Calls Tryz.prog 62 #[.int .i32 111, .pointer (some ⟨P, 0, none⟩), .agg (msL m s1 s2).toArray] w (KeptP w0 w P (setM b 111 m) (kept 111 m)) := by
 obtain ⟨t1, t2, hx, hr1, hr2⟩ := hP
 have HD1 := Lib.hid hd1
 have HPL : Hid (P < w.heap.size) := Lib.hid (Array.getElem?_eq_some_iff.1 hx).1
 obtain ⟨AL, hAL⟩ : ∃ L, msL m s1 s2 = L := ⟨_, rfl⟩
 have HA0 : Hid (MsAt (w.alloc (.cells AL.toArray 80)) w.heap.size m s1 s2) := Lib.hid (ms_at (by rw [hAL]; exact range_new w _ AL))
 have HX0 : Hid ((w.alloc (.cells AL.toArray 80)).heap[P]? = some (.cells (msL b t1 t2).toArray 80 (0, 0))) := Lib.hid ((Below.heap_alloc _ _ _ HPL.out).trans hx)
 have HBA : Hid (MsAt (w.alloc (.cells AL.toArray 80)) P b t1 t2) := Lib.hid (ms_at (fun j u hj => by rw [Nat.zero_add]; exact cellIs HX0.out (by simpa using hj)))
 have HM0 : Hid (Mods [P] w (w.alloc (.cells AL.toArray 80))) := Lib.hid ((Mods.refl [P] w).alloc _)
 have hfz : ∀ i, (w.alloc (.cells AL.toArray 80)).frozen? ⟨P, i, none⟩ = false := fun i => frozenOf HX0.out i
 have HB0 : Hid (Below w0.heap.size w0 ((w.alloc (.cells AL.toArray 80)).setCells P 10 (opL m.op s1))) := Lib.hid (belowSetC hP0 _ _ _ (balloc hb0 _))
 have HBX : Hid (BoxM w0 P { b with op := m.op } ((w.alloc (.cells AL.toArray 80)).setCells P 10 (opL m.op s1))) := Lib.hid (BoxM.set (b' := { b with op := m.op }) (o := 10) (Y := opL m.op s1) HX0.out (msL_op b t1 t2) rfl rfl (msL_op _ s1 t2) hd1 hr2)
 have HMD : Hid (Mods [P] w ((w.alloc (.cells AL.toArray 80)).setCells P 10 (opL m.op s1))) := Lib.hid (mods_setCells (opL m.op s1) 10 HM0.out)
 have CM : Hid (Calls Tryz.prog 89 #[.agg (oC m.op s1)] ((w.alloc (.cells AL.toArray 80)).setCells P 10 (opL m.op s1)) fun e w' => e = .returned (.bool (mayO m.op)) ∧ Below ((w.alloc (.cells AL.toArray 80)).setCells P 10 (opL m.op s1)).heap.size ((w.alloc (.cells AL.toArray 80)).setCells P 10 (opL m.op s1)) w') := Lib.hid (mayO_any m.op ok.op s1 _ (HD1.out.below HB0.out))
 have hne : (P = w.heap.size) = False := by
  have := HPL.out
  exact eq_false (by omega)
 have hne2 : (w.heap.size = P) = False := by
  have := HPL.out
  exact eq_false (by omega)
 obtain ⟨u0, u1, u2, u3, u4, u5, u6⟩ := op_at HA0.out.r10
 obtain ⟨e0, e1, e2, e3, e4, e5, e6⟩ := op_at HBA.out.r10
 rw [hAL]
 have hs : setM b 111 m = { b with op := m.op } := rfl
 have hk : kept 111 m = mayO m.op := rfl
 rw [hs, hk]
 obtain ⟨ao1, cap1, rfl, _⟩ := hd1
 unfold oC opL at CM
 clear hs hk hx hr1 hr2 hAL
 go_enter Tryz.func62, Tryz.ntmps62
 go_wp2_with fail
 refine CM.out.mono ?_
 rintro e w1 ⟨rfl, hb1⟩
 have HF := Lib.hid (HBX.out.mono hb1)
 have HG := Lib.hid (HMD.out.thenBelow hb1)
 clear hb1
 go_wp2_with fail
 go_ret
 exact ⟨rfl, HF.out, HG.out⟩
end Go.Proofs.YtgkelbdgdhkeoaaGreat
