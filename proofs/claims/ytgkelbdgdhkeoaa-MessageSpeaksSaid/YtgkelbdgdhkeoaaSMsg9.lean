/- The values of what a letter stands for, walked. -/
import Derived.Test.YtgkelbdgdhkeoaaSMsg8
namespace Go.Proofs.Ytgkelbdgdhkeoaa
open Go.RowKit
set_option linter.unusedVariables false
set_option linter.unusedSimpArgs false
open Wire Cmd
theorem row_new (W : World) (B b : Nat) (hb : W.heap.size = b) (hB : B ≤ b) (A : List Value) (n : Nat) (hA : A.length = n) (hn : n ≤ 10) {l : List V} (hl : l.length = n) (hx : ∀ W', AnyL W' A l) : RowV B (W.alloc (.cells A.toArray 20)) (.slice (some ⟨b, 0, none⟩) n n) l := by
 subst hb
 exact rowV_of (own_newN W B hB 20 A 1 n (by rw [hA, Nat.mul_one]) hn) hl (hx _).get
set_option maxRecDepth 100000 in
set_option maxHeartbeats 6400000 in
theorem valC_any (c : Int) (m : Ms0) (ok : m.Ok) (s1 s2 : Value) (w : World) (hd1 : Rd w 1 s1 m.op.data.length (bV m.op.data)) (hd2 : Rd w 1 s2 m.item.op.data.length (bV m.item.op.data)) (hl1 : m.op.data.length ≤ 1000000) (hl2 : m.item.op.data.length ≤ 1000000) :
  Calls Try.prog 105 #[.int .i32 c, .agg (msL m s1 s2).toArray] w fun e w' => ∃ v, e = .returned v ∧ RowV w.heap.size w' v (valC c m) ∧ Below w.heap.size w w' := by
 have HD1 := Lib.hid hd1
 have HD2 := Lib.hid hd2
 have HOK := Lib.hid ok
 obtain ⟨AL, hAL⟩ : ∃ L, msL m s1 s2 = L := ⟨_, rfl⟩
 have HA0 : Hid (MsAt (w.alloc (.cells AL.toArray 81)) w.heap.size m s1 s2) := Lib.hid (ms_at (by rw [hAL]; exact range_new w _ AL))
 have HB0 : Hid (Below w.heap.size w (w.alloc (.cells AL.toArray 81))) := Lib.hid (balloc (Below.refl _ _) _)
 have HZ0 : Hid ((w.alloc (.cells AL.toArray 81)).heap.size = w.heap.size + 1) := Lib.hid (by simp)
 rw [hAL]
 clear hd1 hd2 ok hAL
 by_cases h116 : c = 116
 ·subst h116
  obtain ⟨a2, a3, a4, a5, a6, a7⟩ := st_at HA0.out.r2
  go_enter Try.func105, Try.ntmps105
  go_wp2_with fail
  go_ret
  refine ⟨_, rfl, ?_, balloc (balloc (balloc (Below.refl _ _) _) _) _⟩
  exact row_new ((w.alloc (.cells AL.toArray 81)).alloc (.cells (stL m.st).toArray 71)) _ (w.heap.size + 1 + 1) (by simp) (by omega) [.iface 23 (.int .u64 (m.st.epoch : Int)), .iface 23 (.int .u64 (m.st.last : Int)), .iface 23 (.int .u64 (m.st.seq : Int)), .iface 23 (.int .u64 (m.st.bl : Int)), .iface 23 (.int .u64 (m.st.bs : Int)), .iface 4 (.bool m.st.marked)] 6 rfl (by omega) rfl (fun W' => .cons (oany_num _ _ HOK.out.st.epoch) (.cons (oany_num _ _ HOK.out.st.last) (.cons (oany_num _ _ HOK.out.st.seq) (.cons (oany_num _ _ HOK.out.st.bl) (.cons (oany_num _ _ HOK.out.st.bs) (.cons (oany_flag _ _) .nil))))))
 by_cases h108 : c = 108
 ·subst h108
  have a8 := HA0.out.c8
  go_enter Try.func105, Try.ntmps105
  go_wp2_with fail
  go_ret
  refine ⟨_, rfl, ?_, balloc (balloc (Below.refl _ _) _) _⟩
  exact row_new (w.alloc (.cells AL.toArray 81)) _ (w.heap.size + 1) HZ0.out (Nat.le_succ _) [.iface 4 (.bool m.lead)] 1 rfl (by omega) rfl (fun W' => .cons (oany_flag _ _) .nil)
 by_cases h110 : c = 110
 ·subst h110
  have a18 := HA0.out.c18
  go_enter Try.func105, Try.ntmps105
  go_wp2_with fail
  go_ret
  refine ⟨_, rfl, ?_, balloc (balloc (Below.refl _ _) _) _⟩
  exact row_new (w.alloc (.cells AL.toArray 81)) _ (w.heap.size + 1) HZ0.out (Nat.le_succ _) [.iface 23 (.int .u64 (m.num : Int))] 1 rfl (by omega) rfl (fun W' => .cons (oany_num _ _ HOK.out.num) .nil)
 by_cases h102 : c = 102
 ·subst h102
  have a19 := HA0.out.c19
  have hw := u64_wrap m.fro
  go_enter Try.func105, Try.ntmps105
  go_wp2_with fail
  go_ret
  refine ⟨_, rfl, ?_, balloc (balloc (Below.refl _ _) _) _⟩
  exact row_new (w.alloc (.cells AL.toArray 81)) _ (w.heap.size + 1) HZ0.out (Nat.le_succ _) [.iface 23 (.int .u64 ((toU m.fro : Nat) : Int))] 1 rfl (by omega) rfl (fun W' => .cons (oany_num _ _ (u64_lt _)) .nil)
 by_cases h109 : c = 109
 ·subst h109
  have a20 := HA0.out.c20
  have a21 := HA0.out.c21
  go_enter Try.func105, Try.ntmps105
  go_wp2_with fail
  go_ret
  refine ⟨_, rfl, ?_, balloc (balloc (Below.refl _ _) _) _⟩
  exact row_new (w.alloc (.cells AL.toArray 81)) _ (w.heap.size + 1) HZ0.out (Nat.le_succ _) [.iface 23 (.int .u64 (m.ne : Int)), .iface 23 (.int .u64 (m.ns : Int))] 2 rfl (by omega) rfl (fun W' => .cons (oany_num _ _ HOK.out.ne) (.cons (oany_num _ _ HOK.out.ns) .nil))
 by_cases h98 : c = 98
 ·subst h98
  have a17 := HA0.out.c17
  have hw := u64_wrap m.blocks
  go_enter Try.func105, Try.ntmps105
  go_wp2_with fail
  go_ret
  refine ⟨_, rfl, ?_, balloc (balloc (Below.refl _ _) _) _⟩
  exact row_new (w.alloc (.cells AL.toArray 81)) _ (w.heap.size + 1) HZ0.out (Nat.le_succ _) [.iface 23 (.int .u64 ((toU m.blocks : Nat) : Int))] 1 rfl (by omega) rfl (fun W' => .cons (oany_num _ _ (u64_lt _)) .nil)
 by_cases h111 : c = 111
 ·subst h111
  obtain ⟨u0, u1, u2, u3, u4, u5, u6⟩ := op_at HA0.out.r10
  have CO := Lib.hid (opB_any m.op HOK.out.op s1 (w.alloc (.cells AL.toArray 81)) (HD1.out.below HB0.out) hl1)
  unfold oC at CO
  go_enter Try.func105, Try.ntmps105
  go_wp2_with fail
  refine CO.out.mono ?_
  rintro e w1 ⟨v, rfl, ho, hb⟩
  have HO := Lib.hid ho
  have HB1 := Lib.hid (bthen HB0.out hb)
  clear ho hb u0 u1 u2 u3 u4 u5 u6
  go_wp2_with fail
  go_ret
  refine ⟨_, rfl, ?_, balloc HB1.out _⟩
  exact rowV_of (own_newN w1 w.heap.size HB1.out.size 20 [.iface 24 v] 1 1 rfl (by omega)) rfl (AnyL.cons (oany_blob _ _ _ (ownsRow_base (ownsRow_below HO.out (balloc (Below.refl _ _) _)) (Nat.zero_le _))) AnyL.nil).get
 by_cases h105 : c = 105
 ·subst h105
  have CI := Lib.hid (valI_any m.item HOK.out.item s2 (w.alloc (.cells AL.toArray 81)) (HD2.out.below HB0.out) hl2)
  have HR := Lib.hid HA0.out.r22
  have HII : Hid ((Try.prog.info? 79).map (·.size) = some (itL m.item s2).length) := Lib.hid (by rw [itL_len HOK.out.item.data]; exact infoIt)
  obtain ⟨IL, hIL⟩ : ∃ L, itL m.item s2 = L := ⟨_, rfl⟩
  rw [hIL] at CI HR HII
  clear hIL
  go_enter Try.func105, Try.ntmps105
  go_wp2_with (refine wpList_load_mid rfl 79 _ rfl w.heap.size 22 rfl IL _ HR.out Try.underlying79 rfl HII.out ?_)
  refine CI.out.mono ?_
  rintro e w1 ⟨v, rfl, hr, hb⟩
  have HB1 := Lib.hid (bthen HB0.out hb)
  have HRV := Lib.hid hr
  obtain ⟨xs, ho, _⟩ := hr
  obtain ⟨aov, capv, rfl, _⟩ := Rd.of_own ho
  clear hb ho
  go_wp2_with fail
  go_ret
  refine ⟨_, rfl, ?_, HB1.out⟩
  obtain ⟨xs, ho, hx⟩ := HRV.out
  exact ⟨xs, ownsRow_base ho (by rw [HZ0.out]; omega), hx⟩
 have HE : Hid (valC c m = [num m.seq]) := Lib.hid (by unfold valC; rw [if_neg h116, if_neg h108, if_neg h110, if_neg h102, if_neg h109, if_neg h111, if_neg h98, if_neg h105])
 have g1 := bneI h116
 have g2 := bneI h108
 have g3 := bneI h110
 have g4 := bneI h102
 have g5 := bneI h109
 have g6 := bneI h111
 have g7 := bneI h98
 have g8 := bneI h105
 have a9 := HA0.out.c9
 clear h116 h108 h110 h102 h109 h111 h98 h105
 go_enter Try.func105, Try.ntmps105
 go_wp2_with fail
 go_ret
 refine ⟨_, rfl, ?_, balloc (balloc (Below.refl _ _) _) _⟩
 rw [HE.out]
 exact row_new (w.alloc (.cells AL.toArray 81)) _ (w.heap.size + 1) HZ0.out (Nat.le_succ _) [.iface 23 (.int .u64 (m.seq : Int))] 1 rfl (by omega) rfl (fun W' => .cons (oany_num _ _ HOK.out.seq) .nil)
end Go.Proofs.Ytgkelbdgdhkeoaa
