/- The law NetNil, walked. -/
import Derived.Test.YtgkelbdgdhkeoaaNNB
import Derived.Test.YtgkelbdgdhkeoaaNNE
import Derived.Test.YtgkelbdgdhkeoaaNNet19
import Derived.Test.YtgkelbdgdhkeoaaNNet20
namespace Go.Proofs.Ytgkelbdgdhkeoaa
open Go.RowKit
set_option linter.unusedVariables false
set_option linter.unusedSimpArgs false
open Wire Cmd
set_option maxRecDepth 100000 in
set_option maxHeartbeats 1600000 in
theorem same_no (w : World) (v u : Value) (y z : Bool) (h : NetV w v y) (k : NetV w u z) (hyz : (y && z) = false) : Calls Try.prog 66 #[v, u] w fun e w' => e = .returned (.bool (y == z)) ∧ w = w' := by
 have CT := there_any w v y h
 have CU := Lib.hid (there_any w u z k)
 clear h k
 cases y with
 | false =>
  cases z
  all_goals
   go_enter Try.func66, Try.ntmps66
   go_wp2_with fail
   refine CT.mono ?_
   rintro e w1 ⟨rfl, rfl⟩
   go_wp2_with fail
   refine CT.mono ?_
   rintro e w1 ⟨rfl, rfl⟩
   go_wp2_with fail
   refine CU.out.mono ?_
   rintro e w2 ⟨rfl, rfl⟩
   go_wp2_with fail
   go_ret
   exact ⟨rfl, rfl⟩
 | true =>
  obtain rfl : z = false := by simpa using hyz
  clear hyz
  go_enter Try.func66, Try.ntmps66
  go_wp2_with fail
  refine CT.mono ?_
  rintro e w1 ⟨rfl, rfl⟩
  go_wp2_with fail
  refine CU.out.mono ?_
  rintro e w2 ⟨rfl, rfl⟩
  go_wp2_with fail
  refine CT.mono ?_
  rintro e w3 ⟨rfl, rfl⟩
  go_wp2_with fail
  refine CU.out.mono ?_
  rintro e w4 ⟨rfl, rfl⟩
  go_wp2_with fail
  go_ret
  exact ⟨rfl, rfl⟩
theorem netV_below {w w' : World} {v : Value} {y : Bool} (h : NetV w v y) (hb : Below w.heap.size w w') : NetV w' v y := by
 rcases h with h | ⟨B, sv, e, hh⟩
 ·exact .inl h
 ·exact .inr ⟨B, sv, e, (hb.block _ (Array.getElem?_eq_some_iff.1 hh).1).trans hh⟩
theorem netV_nil (w : World) : NetV w (.pointer none) false := .inl ⟨rfl, rfl⟩
set_option maxRecDepth 100000 in
set_option maxHeartbeats 6400000 in
theorem netNil_walk (w : World) : Calls Try.prog 12 #[] w fun e w' => e = .returned (.bool true) ∧ Below w.heap.size w w' := by
 have CK := Lib.hid (fun W => known20_any W)
 have HO1 := Lib.hid (fun (W : World) => old_any 1 (by decide) W)
 have CN1 := Lib.hid (fun (W : World) => num20_any 1 W)
 have HZ0 : Hid (NetV (w.alloc (.cells #[.slice none 0 0, .bool false] 112)) (.pointer (some ⟨w.heap.size, 0, none⟩)) false) := Lib.hid (.inr ⟨_, _, rfl, heap_alloc_new w _⟩)
 have HB0 : Hid (Below w.heap.size w (w.alloc (.cells #[.slice none 0 0, .bool false] 112))) := Lib.hid (balloc (Below.refl _ _) _)
 go_enter Try.func12, Try.ntmps12
 go_upto_region 3 with fail
 obtain ⟨w1, hw1⟩ : ∃ W, w.alloc (.cells #[.slice none 0 0, .bool false] 112) = W := ⟨_, rfl⟩
 rw [hw1] at HZ0 HB0
 try rw [hw1]
 obtain ⟨Z, hZ⟩ : ∃ Z, w.heap.size = Z := ⟨_, rfl⟩
 rw [hZ] at HZ0
 try rw [hZ]
 have HZW := Lib.hid hZ
 clear hw1 hZ
 go_wp2_with fail
 refine (carry_no w1 _ 0 (netV_nil _)).mono ?_
 rintro e w2 ⟨rfl, rfl⟩
 go_wp2_with fail
 refine (at_no w1 _ 0 HZ0.out).mono ?_
 rintro e w2 ⟨rfl, rfl⟩
 go_wp2_with fail
 refine (next_no w1 _ (netV_nil _)).mono ?_
 rintro e w2 ⟨rfl, rfl⟩
 go_wp2_with fail
 refine (HO1.out w1).mono ?_
 rintro e w2 ⟨v2, rfl, ho2, hb2⟩
 have HZ2 := Lib.hid (netV_below HZ0.out hb2)
 have HB2 := Lib.hid (bthen HB0.out hb2)
 clear ho2 hb2
 go_wp2_with fail
 refine (put_no w2 _ 0 v2 (netV_nil _)).mono ?_
 rintro e w3 ⟨rfl, rfl⟩
 go_wp2_with fail
 refine (CN1.out _).mono ?_
 rintro e w3 ⟨rfl, rfl⟩
 go_wp2_with fail
 refine (CN1.out _).mono ?_
 rintro e w3 ⟨rfl, rfl⟩
 go_wp2_with fail
 refine (carried_no w2 _ 0 (netV_nil _)).mono ?_
 rintro e w3 ⟨rfl, rfl⟩
 go_wp2_with fail
 obtain ⟨w3, hw3⟩ : ∃ W, w2.alloc (.cells #[.slice none 0 0] 95) = W := ⟨_, rfl⟩
 have HR3 : Hid (RNetAt w2.heap.size w2 w3 w2.heap.size (.slice none 0 0) []) := Lib.hid (by
  rw [← hw3]
  exact ⟨heap_alloc_new w2 _, World.ownsRow_nil _ _ _ _, fun x hx => (by cases hx), Nat.le_refl _⟩)
 have HBW3 : Hid (Below w2.heap.size w2 w3) := Lib.hid (by rw [← hw3]; exact balloc (Below.refl _ _) _)
 rw [hw3]
 clear hw3
 refine (callsIn_wide.1 (once20_in w2.heap.size w2 w3 (.pointer none) w2.heap.size (.slice none 0 0) [] 0 (by simp) HR3.out (fun W hW => waits_no W _ (netV_nil _)))).mono ?_
 rintro e w4 ⟨rfl, hb4⟩
 have HB24 := Lib.hid (bthen HBW3.out hb4)
 have HB4 := Lib.hid (bthen HB2.out HB24.out)
 have HZ4 := Lib.hid (netV_below HZ2.out HB24.out)
 clear hb4
 go_wp2_with fail
 refine (len_no w4 _ HZ4.out).mono ?_
 rintro e w5 ⟨rfl, rfl⟩
 go_wp2_with fail
 refine (waiting_no w4 _ (netV_nil _)).mono ?_
 rintro e w5 ⟨rfl, hb5⟩
 have HB5 := Lib.hid (bthen HB4.out hb5)
 have HZ5 := Lib.hid (netV_below HZ4.out hb5)
 clear hb5
 go_wp2_with fail
 refine (copy_no w5 _ (netV_nil _)).mono ?_
 rintro e w6 ⟨rfl, rfl⟩
 go_wp2_with fail
 refine (same_no w5 _ _ false false (netV_nil _) HZ5.out rfl).mono ?_
 rintro e w6 ⟨rfl, rfl⟩
 go_wp2_with fail
 refine (new_any w5.heap.size w5 (Nat.le_refl _)).mono ?_
 rintro e w6 ⟨rfl, hn6, hb6⟩
 have HN6 := Lib.hid hn6
 have HB6 := Lib.hid (bthen HB5.out hb6)
 clear hn6 hb6
 go_wp2_with fail
 refine (same_no w6 _ _ false true (netV_nil _) HN6.out.nv rfl).mono ?_
 rintro e w7 ⟨rfl, rfl⟩
 clear HN6
 go_wp2_with fail
 refine (new_any w6.heap.size w6 (Nat.le_refl _)).mono ?_
 rintro e w7 ⟨rfl, hn7, hb7⟩
 obtain ⟨B, hB⟩ : ∃ B, w6.heap.size = B := ⟨_, rfl⟩
 rw [hB] at hn7 ⊢
 have HB7 := Lib.hid (bthen HB6.out hb7)
 have HWB : Hid (w.heap.size ≤ B) := Lib.hid (by rw [← hB]; exact HB6.out.size)
 have HN7 := Lib.hid hn7
 have HBS := Lib.hid hb7.size
 clear hn7 hb7 hB
 go_wp2_with fail
 go_loopw [12] (fun iv wr => ∃ k : Nat, k ≤ 100000 ∧ iv = .int .i64 (k : Int) ∧ ∃ sv L, NetAt B wr B sv L ∧ L.length = k ∧ Below w.heap.size w wr) (fun iv _ => 100000 - (intOf iv).toNat)
 case atStart => exact ⟨0, by omega, rfl, _, [], HN7.out, rfl, HB7.out⟩
 case round =>
  obtain ⟨k, hk, rfl, sv, L, hn, hlen, hb⟩ := hrel
  have HN := Lib.hid hn
  have HB := Lib.hid hb
  have HL := Lib.hid hlen
  clear hn hb hlen
  by_cases hlt : k < 100000
  ·have q0 : decide ((k : Int) < 100000) = true := decide_eq_true (by omega)
   go_wp2_with fail
   refine (HO1.out wr).mono ?_
   rintro e x1 ⟨v1, rfl, ho1, hb1⟩
   have HO := Lib.hid ho1
   have HX1 := Lib.hid hb1
   have HNX := Lib.hid (HN.out.below hb1)
   clear ho1 hb1
   have CP := put_at B x1 B sv L ((k : Int) % 2) (oldB 1) v1 (Nat.le_of_lt HNX.out.lt) HNX.out (Rd.of_own HO.out) (by rw [oldB_len]; omega)
   go_wp2_with fail
   refine CP.mono ?_
   rintro e x2 hP
   obtain ⟨rfl, sv', v', hn2, hc2, _⟩ := put_yes hP (by
    have h1 : (k : Int) % 2 = 0 ∨ (k : Int) % 2 = 1 := by omega
    unfold putOk
    rw [HL.out, of_old1]
    simp [h1, hlt])
   have HN2 := Lib.hid hn2
   have HX2 := Lib.hid (bthen HB.out HX1.out)
   have HB2 : Hid (Below w.heap.size w x2) := Lib.hid (HX2.out.trans (hc2.1.below (fun j hj => by
    have h0 := HWB.out
    rcases List.mem_cons.1 hj with rfl | hj
    ·exact h0
    ·exact Nat.le_trans h0 (ownsRow_ge HNX.out.row j hj)) HX2.out.size))
   rw [HL.out]
   clear hP hn2 hc2 CP
   go_wp2_with fail
   go_roundw
   case rel => exact ⟨k + 1, by omega, by go_num, sv', _, HN2.out, by rw [List.length_append, HL.out]; rfl, HB2.out⟩
   case measure => simp [intOf]; omega
  ·obtain rfl : k = 100000 := by omega
   go_wp2_with fail
   refine (HO1.out wr).mono ?_
   rintro e x1 ⟨v1, rfl, ho1, hb1⟩
   have HNX := Lib.hid (HN.out.below hb1)
   have HX1 := Lib.hid (bthen HB.out hb1)
   have CP := put_at B x1 B sv L 0 (oldB 1) v1 (Nat.le_of_lt HNX.out.lt) HNX.out (Rd.of_own ho1) (by rw [oldB_len]; omega)
   clear ho1 hb1
   go_wp2_with fail
   refine CP.mono ?_
   rintro e x2 hP
   obtain ⟨rfl, hb2⟩ : e = .returned (.int .i64 (-1)) ∧ Below x1.heap.size x1 x2 := by
    rcases hP with ⟨_, he, hb⟩ | ⟨h, _⟩
    ·exact ⟨he, hb⟩
    ·exfalso
     simp [putOk, HL.out] at h
   have HN2 := Lib.hid (HNX.out.below hb2)
   have HX2 := Lib.hid (bthen HX1.out hb2)
   have CL := len_at _ _ _ _ _ (HNX.out.below hb2)
   rw [HL.out] at CL
   clear hP hb2 CP
   go_wp2_with fail
   refine CL.mono ?_
   rintro e x3 ⟨rfl, rfl⟩
   go_wp2_with fail
   refine (CK.out _).mono ?_
   rintro e x4 ⟨rfl, hb4⟩
   have HX4 := Lib.hid (bthen HX2.out hb4)
   clear hb4 CL
   go_wp2_with fail
   go_ret
   exact ⟨rfl, HX4.out⟩
end Go.Proofs.Ytgkelbdgdhkeoaa
