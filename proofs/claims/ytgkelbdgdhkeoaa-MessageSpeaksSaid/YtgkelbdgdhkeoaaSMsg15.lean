/- The reference's Much of a message, walked. -/
import Derived.Test.YtgkelbdgdhkeoaaSMsg3
import Derived.Test.YtgkelbdgdhkeoaaSCK
namespace Go.Proofs.Ytgkelbdgdhkeoaa
open Go.RowKit
set_option linter.unusedVariables false
set_option linter.unusedSimpArgs false
open Wire Cmd
theorem rd_slice {w : World} {sl : Value} {n : Nat} {cs : List Value} (h : Rd w 1 sl n cs) : ∃ ao cap, sl = .slice ao n cap := by
 obtain ⟨ao, cap, rfl, _⟩ := h
 exact ⟨ao, cap, rfl⟩
set_option maxRecDepth 100000 in
set_option maxHeartbeats 1600000 in
theorem much19_any (m : Ms0) (s1 s2 : Value) (w : World) (hd : m.item.data.length = 256) (hd1 : Rd w 1 s1 m.op.data.length (bV m.op.data)) (hd2 : Rd w 1 s2 m.item.op.data.length (bV m.item.op.data)) (hl1 : m.op.data.length ≤ 9223372036854775807) (hl2 : m.item.op.data.length ≤ 9223372036854775807) :
  Calls Try.prog 47 #[.agg (msL m s1 s2).toArray] w fun e w' => e = .returned (.bool (decide (9000 < (m.op.data.length : Int)) || decide (9000 < (m.item.op.data.length : Int)))) ∧ Below w.heap.size w w' := by
 obtain ⟨ao1, cap1, rfl⟩ := rd_slice hd1
 obtain ⟨ao2, cap2, rfl⟩ := rd_slice hd2
 have C1 : Hid (∀ X, Calls Try.prog 17 #[.agg (oC m.op (.slice ao1 m.op.data.length cap1))] X fun e w' => e = .returned (.bool (decide (9000 < (m.op.data.length : Int)))) ∧ Below X.heap.size X w') := Lib.hid (fun X => much13_any m.op ao1 cap1 X hl1)
 have C2 : Hid (∀ X, Calls Try.prog 17 #[.agg (oC m.item.op (.slice ao2 m.item.op.data.length cap2))] X fun e w' => e = .returned (.bool (decide (9000 < (m.item.op.data.length : Int)))) ∧ Below X.heap.size X w') := Lib.hid (fun X => much13_any m.item.op ao2 cap2 X hl2)
 obtain ⟨AL, hAL⟩ : ∃ L, msL m (.slice ao1 m.op.data.length cap1) (.slice ao2 m.item.op.data.length cap2) = L := ⟨_, rfl⟩
 have HAL := Lib.hid hAL
 have HMS : Hid (∀ X, Below (w.alloc (.cells AL.toArray 81)).heap.size (w.alloc (.cells AL.toArray 81)) X → MsAt X w.heap.size m (.slice ao1 m.op.data.length cap1) (.slice ao2 m.item.op.data.length cap2)) := Lib.hid (fun X hX => ms_at (fun j u hj => by
  rw [Nat.zero_add]
  rw [HAL.out] at hj
  exact cellIs ((hX.block _ (Array.getElem?_eq_some_iff.1 (heap_alloc_new w _)).1).trans (heap_alloc_new w _)) (by simpa using hj)))
 have HB : Hid (Below w.heap.size w (w.alloc (.cells AL.toArray 81))) := Lib.hid (balloc (Below.refl _ _) _)
 obtain ⟨u0, u1, u2, u3, u4, u5, u6⟩ := op_at (HMS.out _ (Below.refl _ _)).r10
 simp only [Nat.reduceAdd] at u0 u1 u2 u3 u4 u5 u6
 rw [hAL]
 clear hAL
 generalize decide (9000 < (m.op.data.length : Int)) = b1 at *
 generalize decide (9000 < (m.item.op.data.length : Int)) = b2 at *
 unfold oC at C1 C2
 go_enter Try.func47, Try.ntmps47
 go_wp2_with fail
 refine (C1.out _).mono ?_
 rintro e w1 ⟨rfl, hb1⟩
 obtain ⟨v0, v1, v2, v3, v4, v5, v6⟩ := op_at (it_at (HMS.out _ hb1).r22 hd).r260
 simp only [Nat.reduceAdd] at v0 v1 v2 v3 v4 v5 v6
 have HB1 := Lib.hid (bthen HB.out hb1)
 clear hb1 u0 u1 u2 u3 u4 u5 u6
 cases b1
 ·go_wp2_with fail
  refine (C2.out _).mono ?_
  rintro e w2 ⟨rfl, hb2⟩
  have HB2 := Lib.hid (bthen HB1.out hb2)
  clear hb2
  go_wp2_with fail
  go_ret
  exact ⟨by simp, HB2.out⟩
 ·go_wp2_with fail
  go_ret
  exact ⟨by simp, HB1.out⟩
end Go.Proofs.Ytgkelbdgdhkeoaa
