/- The law MessageEnds, walked. -/
import Derived.Test.YtgkelbdgdhkeoaaMOfC
namespace Go.Proofs.Ytgkelbdgdhkeoaa
open Go.RowKit
set_option linter.unusedVariables false
set_option linter.unusedSimpArgs false
open Wire Cmd

set_option maxRecDepth 100000 in
set_option maxHeartbeats 12800000 in
theorem messageEnds_walk (m : Ms0) (ok : m.Ok) (more : UInt8) (s1 s2 : Value) (w : World) (hd1 : Rd w 1 s1 m.op.data.length (bV m.op.data)) (hd2 : Rd w 1 s2 m.item.op.data.length (bV m.item.op.data)) :
    Calls Try.prog 15 #[.agg (msL m s1 s2).toArray, .int .u8 (more.toNat : Int)] w fun e w' => e = .returned (.bool true) ∧ Below w.heap.size w w' := by
  have HD1 := Lib.hid hd1
  have HD2 := Lib.hid hd2
  have HOK := Lib.hid ok
  have CK := Lib.hid (fun W => known19_any W)
  have hl1 : m.op.data.length ≤ 9223372036854775807 := by obtain ⟨_, _, _, _, h, _⟩ := hd1; unfold maxLen at h; exact h
  have hl2 : m.item.op.data.length ≤ 9223372036854775807 := by obtain ⟨_, _, _, _, h, _⟩ := hd2; unfold maxLen at h; exact h
  obtain ⟨AL, hAL, hal⟩ : ∃ L, msL m s1 s2 = L ∧ L.length = 290 := ⟨_, rfl, msL_len ok.item.data⟩
  have HAL := Lib.hid hAL
  have CMU : Hid (∀ X, Below w.heap.size w X → Calls Try.prog 47 #[.agg AL.toArray] X fun e w' => e = .returned (.bool (decide (9000 < (m.op.data.length : Int)) || decide (9000 < (m.item.op.data.length : Int)))) ∧ Below X.heap.size X w') := Lib.hid (fun X hX => by
    rw [← hAL]
    exact much19_any m s1 s2 X ok.item.data (hd1.below hX) (hd2.below hX) hl1 hl2)
  have CB : Hid (∀ X, Below w.heap.size w X → Calls Try.prog 49 #[.agg AL.toArray] X (PackP X (packM m))) := Lib.hid (fun X hX => by
    rw [← hAL]
    exact bytesM_any m ok s1 s2 X (hd1.below hX) (hd2.below hX))
  have CMY : Hid (∀ X, Below w.heap.size w X → Calls Try.prog 75 #[.agg AL.toArray] X fun e w' => e = .returned (.bool (mayM m)) ∧ Below X.heap.size X w') := Lib.hid (fun X hX => by
    rw [← hAL]
    exact mayM_any m ok s1 s2 X (hd1.below hX) (hd2.below hX))
  have HI : Hid ((Try.prog.info? 81).map (·.size) = some AL.length) := Lib.hid (infoM hal)
  obtain ⟨W0, hW0⟩ : ∃ W, w.alloc (.cells AL.toArray 81) = W := ⟨_, rfl⟩
  have HBB : Hid (Below w.heap.size w W0) := Lib.hid (by rw [← hW0]; exact balloc (Below.refl _ _) _)
  have HRA : Hid (∀ X, Below W0.heap.size W0 X → X.rangeAt w.heap.size 0 AL) := Lib.hid (fun X hX => by rw [← hW0] at hX; exact box_later hX)
  have HK0 : Hid (∀ X, Below W0.heap.size W0 X → X.cell? ⟨w.heap.size, 0, none⟩ = some (.int .i64 m.k)) := Lib.hid (fun X hX => (ms_at (m := m) (s1 := s1) (s2 := s2) (by rw [hAL]; exact HRA.out X hX)).c0)
  rw [hAL]
  clear hd1 hd2 ok hAL hal
  obtain ⟨mu, hmu⟩ : ∃ b, (decide (9000 < (m.op.data.length : Int)) || decide (9000 < (m.item.op.data.length : Int))) = b := ⟨_, rfl⟩
  rw [hmu] at CMU
  cases mu with
  | true =>
    clear hmu hl1 hl2
    go_enter Try.func15, Try.ntmps15
    go_wp2_with (refine wpList_load_mid rfl 81 _ rfl w.heap.size 0 rfl AL _ (HRA.out _ (Below.refl _ _)) Try.underlying81 rfl HI.out ?_)
    refine (CMU.out _ HBB.out).mono ?_
    rintro e w1 ⟨rfl, hb1⟩
    replace HBB := Lib.hid (bthen HBB.out hb1)
    clear hb1 hW0
    go_wp2_with fail
    refine (CK.out _).mono ?_
    rintro e w2 ⟨rfl, hb2⟩
    have HB2 := Lib.hid (bthen HBB.out hb2)
    clear hb2
    go_wp2_with fail
    go_ret
    exact ⟨rfl, HB2.out⟩
  | false =>
    clear hmu hl1 hl2 CMY HK0
    obtain ⟨mx, hmx⟩ : ∃ z : Int, (more.toNat : Int) = z := ⟨_, rfl⟩
    rw [hmx]
    have HMX := Lib.hid hmx
    clear hmx
    go_enter Try.func15, Try.ntmps15
    go_wp2_with (refine wpList_load_mid rfl 81 _ rfl w.heap.size 0 rfl AL _ (HRA.out _ (Below.refl _ _)) Try.underlying81 rfl HI.out ?_)
    refine (CMU.out _ HBB.out).mono ?_
    rintro e w1 ⟨rfl, hb1⟩
    have HB1 := Lib.hid hb1
    clear hb1 hW0
    go_wp2_with (refine wpList_load_mid rfl 81 _ rfl w.heap.size 0 rfl AL _ (HRA.out _ HB1.out) Try.underlying81 rfl HI.out ?_)
    refine (CB.out _ (bthen HBB.out HB1.out)).mono ?_
    intro e w2 hP
    obtain ⟨bs, bv, em, rfl, hcs, hbo, hb2⟩ := hP.mform HOK.out
    have HB2 := Lib.hid (bthen HBB.out (bthen HB1.out hb2))
    have HBO := Lib.hid hbo
    clear hP hb2
    rcases hcs with ⟨hy, hbs, rfl⟩ | ⟨hy, rfl, rfl⟩
    rotate_left
    · obtain ⟨aob, capb, rfl⟩ := rd_slice (Rd.of_own hbo)
      clear hy hbo
      go_wp2_with (first
        | (go_at_call 54; refine (num19_any _ _).mono ?_; rintro e w' ⟨rfl, rfl⟩))
      refine (CK.out _).mono ?_
      rintro e x6 ⟨rfl, hx6⟩
      have HX6 := Lib.hid (bthen HB2.out hx6)
      clear hx6
      go_wp2_with fail
      go_ret
      exact ⟨rfl, HX6.out⟩
    have HLE : Hid (bs.length ≤ 40000) := Lib.hid (by rw [hbs]; exact bsM_len HOK.out hy)
    have HPO : Hid (1 ≤ bs.length) := Lib.hid (by rw [hbs]; exact bsM_pos m)
    have HLS : Hid (ofM (bs.take (bs.length - 1)) = none) := Lib.hid (by rw [hbs]; exact ofM_cut HOK.out hy)
    have HMO : Hid (ofM (bs ++ [more]) = none) := Lib.hid (by rw [hbs]; exact ofM_more HOK.out hy more)
    obtain ⟨aob, capb, rfl, _, _, ⟨_, hc1, hc2⟩, hcell⟩ := Rd.of_own hbo
    unfold maxLen at hc2
    clear hcell hbo hbs hy
    obtain ⟨n, hn⟩ : ∃ n, bs.length = n := ⟨_, rfl⟩
    have HNN := Lib.hid hn
    rw [hn] at HBO hc1 HLE HPO HLS ⊢
    have hn1 := HPO.out
    have hn2 := HLE.out
    have hnz : (n == 0) = false := by rw [beq_eq_false_iff_ne]; omega
    have hnz' : ((n : Int) == 0) = false := bneI (by omega)
    have hcut := fun W => run_cutH (P := Try.prog) W 24 aob n capb 1 undBytes szBytes ((n : Int) - 1) (by omega) (by omega)
    rw [show ((n : Int) - 1).toNat = n - 1 by omega] at hcut
    have HTK : Hid (Rd w2 1 (.slice (cutA aob capb 0 1) (n - 1) capb) (n - 1) (bV (bs.take (n - 1)))) := Lib.hid ((Rd.of_own HBO.out).head (by omega))
    generalize cutA aob capb 0 1 = A1 at *
    have CO1 := Lib.hid (ofM_own (bs.take (n - 1)) (.slice A1 (n - 1) capb) w2 (by
      have h := HTK.out
      have e : (bs.take (n - 1)).length = n - 1 := by rw [List.length_take, HNN.out]; omega
      rw [e]
      exact h) (by rw [List.length_take, HNN.out]; omega))
    clear hn
    go_upto_region 6 with (first
      | (go_at_call 54; refine (num19_any _ _).mono ?_; rintro e w' ⟨rfl, rfl⟩))
    clear hnz hnz'
    go_wp2_with fail
    refine CO1.out.mono ?_
    rw [HLS.out]
    rintro e w3 ⟨hb3, t1, t2, rfl, ho1, ho2⟩
    obtain ⟨DL, hDL, hdl, hdo⟩ : ∃ L, msL (oM none) t1 t2 = L ∧ L.length = 290 ∧ ∀ u ∈ L, u.oneCell' = true := ⟨_, rfl, msL_len z256_len, msL_one (oneOwn ho1) (oneOwn ho2)⟩
    rw [hDL]
    have hst := msNew w3 hdl hdo
    have HB3 := Lib.hid (bthen HB2.out (balloc hb3 (.cells DL.toArray 81)))
    have HR3 := Lib.hid (((Rd.of_own HBO.out).below hb3).below (balloc (Below.refl _ _) (.cells DL.toArray 81)))
    have e4 : eA (none : Option Ms0) = 4 := rfl
    rw [e4]
    clear hDL hdo ho1 ho2 hb3 CO1 hcut e4
    go_upto_region 7 with fail
    clear hst hdl
    generalize w3.alloc (.cells DL.toArray 81) = w4 at *
    have HNL := Lib.hid (World.ownsRow_nil w4 w4.heap.size 5 1)
    go_wp2_with (at_builtin; go_must (refine wpList_apps rfl _ _ 24 rfl w4.heap.size 5 _ 1 1 Try.underlying24 infoByte rfl (by decide) (by decide) (.slice none 0 0) 0 [] rfl HNL.out (.slice aob n capb) n (bV bs) rfl HR3.out (bV_one _) (by omega) (Nat.le_refl _) ?_); intro v5 w5 ho5 hb5 hg5 hs5 hn5; refine Hid.out ?_)
    refine Lib.hid ?_
    have HO5 : Hid ((w5.alloc (.cells #[.int .u8 mx] 5)).ownsRow w4.heap.size 5 1 v5 n (bV bs)) := Lib.hid (by
      have h := ownsRow_below ho5 (balloc (Below.refl _ w5) (.cells #[.int .u8 mx] 5))
      rw [Nat.zero_add, List.nil_append] at h
      exact h)
    have HB5 : Hid (Below w4.heap.size w4 (w5.alloc (.cells #[.int .u8 mx] 5))) := Lib.hid (hb5.alloc hb5.size _)
    have HN5 : Hid (Rd (w5.alloc (.cells #[.int .u8 mx] 5)) 1 (.slice (some ⟨w5.heap.size, 0, none⟩) 1 1) 1 (bV [more])) := Lib.hid (by
      have h := Rd.of_own (own_new w5 0 (Nat.zero_le _) 5 [.int .u8 mx] 1 rfl)
      have e : bV [more] = [.int .u8 mx] := by rw [← HMX.out]; rfl
      rw [e]
      exact h)
    have hsz5 := HB5.out.size
    clear ho5 hb5 hg5 hs5 hn5
    go_wp2_with (at_builtin; go_must (refine wpList_apps rfl _ _ 24 rfl w4.heap.size 5 _ 1 1 Try.underlying24 infoByte rfl (by decide) (by decide) v5 n (bV bs) rfl HO5.out _ 1 _ rfl HN5.out (bV_one _) (by omega) hsz5 ?_); intro v6 w6 ho6 hb6 hg6 hs6 hn6)
    have HB6 : Hid (Below w.heap.size w w6) := Lib.hid (bthen HB3.out (HB5.out.trans hb6))
    have CO2 := Lib.hid (ofM_own (bs ++ [more]) v6 w6 (by
      have h := Rd.of_own ho6
      rw [← bV_app] at h
      have e : (bs ++ [more]).length = n + 1 := by rw [List.length_append, HNN.out]; rfl
      rw [e]
      exact h) (by rw [List.length_append, HNN.out, List.length_singleton]; omega))
    clear ho6 hb6 hg6 hs6 hn6 hsz5
    go_wp2_with fail
    refine CO2.out.mono ?_
    rw [HMO.out]
    rintro e w7 ⟨hb7, t3, t4, rfl, ho3, ho4⟩
    obtain ⟨EL, hEL, hel, heo⟩ : ∃ L, msL (oM none) t3 t4 = L ∧ L.length = 290 ∧ ∀ u ∈ L, u.oneCell' = true := ⟨_, rfl, msL_len z256_len, msL_one (oneOwn ho3) (oneOwn ho4)⟩
    rw [hEL]
    have hst := msNew w7 hel heo
    have HB7 := Lib.hid (bthen HB6.out (balloc hb7 (.cells EL.toArray 81)))
    have e4 : eA (none : Option Ms0) = 4 := rfl
    rw [e4]
    clear hEL heo ho3 ho4 hb7 CO2 e4
    go_upto_region 8 with fail
    clear hst hel
    generalize w7.alloc (.cells EL.toArray 81) = w8 at *
    go_wp2_with (first
      | (go_at_call 54; refine (num19_any _ _).mono ?_; rintro e w' ⟨rfl, rfl⟩))
    refine (CK.out _).mono ?_
    rintro e x6 ⟨rfl, hx6⟩
    have HX6 := Lib.hid (bthen HB7.out hx6)
    clear hx6
    go_wp2_with fail
    go_ret
    exact ⟨rfl, HX6.out⟩
end Go.Proofs.Ytgkelbdgdhkeoaa
