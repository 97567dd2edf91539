/- kept, walked. -/
import Derived.Test.YtgkelbdgdhkeoaaGreatPMsg11
namespace Go.Proofs.YtgkelbdgdhkeoaaGreat
open Go.RowKit
set_option linter.unusedVariables false
set_option linter.unusedSimpArgs false
open Wire Cmd
theorem mods_setCells {P : Nat} : ∀ (vs : List Value) (o : Nat) {a w : World}, Mods [P] a w → Mods [P] a (w.setCells P o vs)
 | [], _, _, _, h => h
 | v :: r, o, a, w, h => by
  rw [World.setCells]
  exact mods_setCells r (o + 1) (h.setCell (p := ⟨P, o, none⟩) (by simp) v)
/-- What kept leaves. -/
def KeptP (w0 w : World) (P : Nat) (b : Ms0) (y : Bool) (e : Ending) (w' : World) : Prop := e = .returned (.bool y) ∧ BoxM w0 P b w' ∧ Mods [P] w w'
set_option maxRecDepth 100000 in
set_option maxHeartbeats 6400000 in
theorem kept_easy (c : Int) (m : Ms0) (ok : m.Ok) (s1 s2 : Value) (b : Ms0) (P : Nat) (w0 w : World) (hb0 : Below w0.heap.size w0 w) (hP : BoxM w0 P b w) (hd1 : Rd w0 1 s1 m.op.data.length (bV m.op.data)) (hd2 : Rd w0 1 s2 m.item.op.data.length (bV m.item.op.data)) (hbd : b.item.data.length = 256) (hc : c = 116 ∨ c = 108 ∨ c = 110 ∨ c = 115 ∨ c = 102 ∨ c = 109 ∨ c = 98) :
  Calls Tryz.prog 62 #[.int .i32 c, .pointer (some ⟨P, 0, none⟩), .agg (msL m s1 s2).toArray] w (KeptP w0 w P (setM b c m) (kept c m)) := by
 obtain ⟨t1, t2, hx, hr1, hr2⟩ := hP
 have HPL : Hid (P < w.heap.size) := Lib.hid (Array.getElem?_eq_some_iff.1 hx).1
 obtain ⟨AL, hAL⟩ : ∃ L, msL m s1 s2 = L := ⟨_, rfl⟩
 have HA0 : Hid (MsAt (w.alloc (.cells AL.toArray 80)) w.heap.size m s1 s2) := Lib.hid (ms_at (by rw [hAL]; exact range_new w _ AL))
 have HX0 : Hid ((w.alloc (.cells AL.toArray 80)).heap[P]? = some (.cells (msL b t1 t2).toArray 80 (0, 0))) := Lib.hid ((Below.heap_alloc _ _ _ HPL.out).trans hx)
 have HBA : Hid (MsAt (w.alloc (.cells AL.toArray 80)) P b t1 t2) := Lib.hid (ms_at (fun j u hj => by rw [Nat.zero_add]; exact cellIs HX0.out (by simpa using hj)))
 have HM0 : Hid (Mods [P] w (w.alloc (.cells AL.toArray 80))) := Lib.hid ((Mods.refl [P] w).alloc _)
 have hfz : ∀ i, (w.alloc (.cells AL.toArray 80)).frozen? ⟨P, i, none⟩ = false := fun i => frozenOf HX0.out i
 have HR := Lib.hid (And.intro hr1 hr2)
 have hne : (P = w.heap.size) = False := by
  have := HPL.out
  exact eq_false (by omega)
 have hne2 : (w.heap.size = P) = False := by
  have := HPL.out
  exact eq_false (by omega)
 rw [hAL]
 clear hx hr1 hr2 hAL
 rcases hc with rfl | rfl | rfl | rfl | rfl | rfl | rfl
 ·obtain ⟨a2, a3, a4, a5, a6, a7⟩ := st_at HA0.out.r2
  obtain ⟨e2, e3, e4, e5, e6, e7⟩ := st_at HBA.out.r2
  have hs : setM b 116 m = { b with st := m.st } := rfl
  have hk : kept 116 m = mayS m.st := rfl
  rw [hs, hk]
  clear hs hk
  have CS := fun W => mayS_any m.st W
  unfold stL at CS
  have HCS := Lib.hid CS
  clear CS
  go_enter Tryz.func62, Tryz.ntmps62
  go_wp2_with fail
  refine (HCS.out _).mono ?_
  rintro e w1 ⟨rfl, hb1⟩
  have HF : Hid (BoxM w0 P { b with st := m.st } w1) := Lib.hid ((BoxM.set (b' := { b with st := m.st }) (o := 2) (Y := stL m.st) HX0.out (msL_st b t1 t2) rfl rfl (msL_st _ t1 t2) HR.out.1 HR.out.2).mono hb1)
  have HG : Hid (Mods [P] w w1) := Lib.hid ((mods_setCells (stL m.st) 2 HM0.out).thenBelow hb1)
  clear hb1
  go_wp2_with fail
  go_ret
  exact ⟨rfl, HF.out, HG.out⟩
 ·have a8 := HA0.out.c8
  have e8 := HBA.out.c8
  have hs : setM b 108 m = { b with lead := m.lead } := rfl
  have hk : kept 108 m = true := rfl
  rw [hs, hk]
  clear hs hk
  go_enter Tryz.func62, Tryz.ntmps62
  go_wp2_with fail
  go_ret
  exact ⟨rfl, BoxM.set (b' := { b with lead := m.lead }) (o := 8) (Y := [.bool m.lead]) HX0.out (msL_lead b t1 t2) rfl rfl (msL_lead _ t1 t2) HR.out.1 HR.out.2, mods_setCells [.bool m.lead] 8 HM0.out⟩
 ·have a18 := HA0.out.c18
  have e18 := HBA.out.c18
  have hs : setM b 110 m = { b with num := m.num } := rfl
  have hk : kept 110 m = true := rfl
  rw [hs, hk]
  clear hs hk
  go_enter Tryz.func62, Tryz.ntmps62
  go_wp2_with fail
  go_ret
  exact ⟨rfl, BoxM.set (b' := { b with num := m.num }) (o := 18) (Y := [.int .u64 (m.num : Int)]) HX0.out (msL_num b t1 t2) rfl rfl (msL_num _ t1 t2) HR.out.1 HR.out.2, mods_setCells [.int .u64 (m.num : Int)] 18 HM0.out⟩
 ·have a9 := HA0.out.c9
  have e9 := HBA.out.c9
  have hs : setM b 115 m = { b with seq := m.seq } := rfl
  have hk : kept 115 m = true := rfl
  rw [hs, hk]
  clear hs hk
  go_enter Tryz.func62, Tryz.ntmps62
  go_wp2_with fail
  go_ret
  exact ⟨rfl, BoxM.set (b' := { b with seq := m.seq }) (o := 9) (Y := [.int .u64 (m.seq : Int)]) HX0.out (msL_seq b t1 t2) rfl rfl (msL_seq _ t1 t2) HR.out.1 HR.out.2, mods_setCells [.int .u64 (m.seq : Int)] 9 HM0.out⟩
 ·have a19 := HA0.out.c19
  have e19 := HBA.out.c19
  have hs : setM b 102 m = { b with fro := m.fro } := rfl
  have hk : kept 102 m = decide (0 ≤ m.fro ∧ m.fro ≤ 2) := rfl
  rw [hs, hk]
  clear hs hk
  have HF : Hid (BoxM w0 P { b with fro := m.fro } ((w.alloc (.cells AL.toArray 80)).setCell ⟨P, 19, none⟩ (.int .i64 m.fro))) := Lib.hid (BoxM.set (b' := { b with fro := m.fro }) (o := 19) (Y := [.int .i64 m.fro]) HX0.out (msL_fro b t1 t2) rfl rfl (msL_fro _ t1 t2) HR.out.1 HR.out.2)
  have HG : Hid (Mods [P] w ((w.alloc (.cells AL.toArray 80)).setCell ⟨P, 19, none⟩ (.int .i64 m.fro))) := Lib.hid (mods_setCells [.int .i64 m.fro] 19 HM0.out)
  go_enter Tryz.func62, Tryz.ntmps62
  go_wp2_with fail
  all_goals
   go_ret
   refine ⟨ret_bool ?_, HF.out, HG.out⟩
   rw [Bool.eq_iff_iff]
   try simp only [Bool.and_eq_true, decide_eq_true_eq, Bool.false_eq_true, false_iff, iff_false, true_iff, iff_true, true_and, and_true]
   omega
 ·have a20 := HA0.out.c20
  have a21 := HA0.out.c21
  have e20 := HBA.out.c20
  have e21 := HBA.out.c21
  have hs : setM b 109 m = { b with ne := m.ne, ns := m.ns } := rfl
  have hk : kept 109 m = true := rfl
  rw [hs, hk]
  clear hs hk
  go_enter Tryz.func62, Tryz.ntmps62
  go_wp2_with fail
  go_ret
  exact ⟨rfl, BoxM.set (b' := { b with ne := m.ne, ns := m.ns }) (o := 20) (Y := [.int .u64 (m.ne : Int), .int .u64 (m.ns : Int)]) HX0.out (msL_name b t1 t2) rfl rfl (msL_name _ t1 t2) HR.out.1 HR.out.2, mods_setCells [.int .u64 (m.ne : Int), .int .u64 (m.ns : Int)] 20 HM0.out⟩
 ·have a17 := HA0.out.c17
  have e17 := HBA.out.c17
  have hs : setM b 98 m = { b with blocks := m.blocks } := rfl
  have hk : kept 98 m = decide (0 ≤ m.blocks ∧ m.blocks ≤ 1048576) := rfl
  rw [hs, hk]
  clear hs hk
  have HF : Hid (BoxM w0 P { b with blocks := m.blocks } ((w.alloc (.cells AL.toArray 80)).setCell ⟨P, 17, none⟩ (.int .i64 m.blocks))) := Lib.hid (BoxM.set (b' := { b with blocks := m.blocks }) (o := 17) (Y := [.int .i64 m.blocks]) HX0.out (msL_blocks b t1 t2) rfl rfl (msL_blocks _ t1 t2) HR.out.1 HR.out.2)
  have HG : Hid (Mods [P] w ((w.alloc (.cells AL.toArray 80)).setCell ⟨P, 17, none⟩ (.int .i64 m.blocks))) := Lib.hid (mods_setCells [.int .i64 m.blocks] 17 HM0.out)
  go_enter Tryz.func62, Tryz.ntmps62
  go_wp2_with fail
  all_goals
   go_ret
   refine ⟨ret_bool ?_, HF.out, HG.out⟩
   rw [Bool.eq_iff_iff]
   try simp only [Bool.and_eq_true, decide_eq_true_eq, Bool.false_eq_true, false_iff, iff_false, true_iff, iff_true, true_and, and_true]
   omega
set_option maxRecDepth 100000 in
set_option maxHeartbeats 6400000 in
theorem kept_other (c : Int) (m : Ms0) (s1 s2 : Value) (b : Ms0) (P : Nat) (w0 w : World) (hP : BoxM w0 P b w) (hc : ¬ (c = 116 ∨ c = 108 ∨ c = 110 ∨ c = 115 ∨ c = 102 ∨ c = 109 ∨ c = 98 ∨ c = 111 ∨ c = 105)) :
  Calls Tryz.prog 62 #[.int .i32 c, .pointer (some ⟨P, 0, none⟩), .agg (msL m s1 s2).toArray] w (KeptP w0 w P (setM b c m) (kept c m)) := by
 have HE : Hid (setM b c m = b ∧ kept c m = true) := Lib.hid (by
  unfold setM kept
  repeat rw [if_neg (by omega)]
  exact ⟨rfl, rfl⟩)
 have HF : Hid (BoxM w0 P b (w.alloc (.cells (msL m s1 s2).toArray 80))) := Lib.hid (hP.mono (balloc (Below.refl _ _) _))
 have HG : Hid (Mods [P] w (w.alloc (.cells (msL m s1 s2).toArray 80))) := Lib.hid ((Mods.refl [P] w).alloc _)
 have g1 := bneI (show c ≠ 116 by omega)
 have g2 := bneI (show c ≠ 108 by omega)
 have g3 := bneI (show c ≠ 110 by omega)
 have g4 := bneI (show c ≠ 115 by omega)
 have g5 := bneI (show c ≠ 102 by omega)
 have g6 := bneI (show c ≠ 109 by omega)
 have g7 := bneI (show c ≠ 98 by omega)
 have g8 := bneI (show c ≠ 111 by omega)
 have g9 := bneI (show c ≠ 105 by omega)
 rw [HE.out.1, HE.out.2]
 generalize (msL m s1 s2).toArray = AL at *
 clear hc hP
 go_enter Tryz.func62, Tryz.ntmps62
 go_wp2_with fail
 go_ret
 exact ⟨rfl, HF.out, HG.out⟩
end Go.Proofs.YtgkelbdgdhkeoaaGreat
