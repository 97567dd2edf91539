/- Several texts in one: Net15 Net16. -/
import Derived.Test.YtgkelbdgdhkeoaaGreatPND
import Derived.Test.YtgkelbdgdhkeoaaGreatPNB
namespace Go.Proofs.YtgkelbdgdhkeoaaGreat
open Go.RowKit
set_option linter.unusedVariables false
set_option linter.unusedSimpArgs false
theorem beq_dec (a b : List UInt8) : (a == b) = decide (a = b) := by
 rw [Bool.eq_iff_iff, beq_iff_eq, decide_eq_true_eq]
set_option maxRecDepth 100000 in
set_option maxHeartbeats 1600000 in
theorem bequal_any (u v : Value) (n m : Nat) (a b : List UInt8) (w : World) (ha : Rd w 1 u n (bV a)) (hb : Rd w 1 v m (bV b)) : Calls Tryz.prog 28 #[u, v] w fun e w' => e = .returned (.bool (decide (a = b))) ∧ w = w' := by
 have htx := run_text w u n a ha
 have hty := run_text w v m b hb
 have HE : Hid (((strB a).toList == (strB b).toList) = decide (a = b)) := Lib.hid (by rw [strB_toList, strB_toList, beq_dec])
 obtain ⟨s, hs⟩ : ∃ s, strB a = s := ⟨_, rfl⟩
 obtain ⟨t, ht⟩ : ∃ s, strB b = s := ⟨_, rfl⟩
 rw [hs] at htx HE
 rw [ht] at hty HE
 clear ha hb hs ht
 go_enter Tryz.func28, Tryz.ntmps28
 go_wp2_with fail
 go_ret
 exact ⟨by rw [← HE.out]; rfl, rfl⟩
set_option maxRecDepth 100000 in
set_option maxHeartbeats 1600000 in
theorem lsame_any (x y : Lt) (w : World) (hx : Rd w 1 x.v x.b.length (bV x.b)) (hy : Rd w 1 y.v y.b.length (bV y.b)) :
  Calls Tryz.prog 27 #[.agg #[.int .i64 x.to_, .int .i64 (x.car : Int), x.v], .agg #[.int .i64 y.to_, .int .i64 (y.car : Int), y.v]] w fun e w' => e = .returned (.bool (decide (key x = key y))) ∧ Below w.heap.size w w' := by
 have CE : Hid (∀ W, Below w.heap.size w W → Calls Tryz.prog 28 #[x.v, y.v] W fun e w' => e = .returned (.bool (decide (x.b = y.b))) ∧ W = w') := Lib.hid (fun W hW => bequal_any _ _ _ _ _ _ W (hx.below hW) (hy.below hW))
 obtain ⟨ax, cx, ex, _⟩ := hx
 obtain ⟨ay, cy, ey, _⟩ := hy
 have HK : Hid (decide (key x = key y) = (decide (x.to_ = y.to_) && (decide (x.car = y.car) && decide (x.b = y.b)))) := Lib.hid (by
  rw [Bool.eq_iff_iff]
  simp [key])
 rw [ex, ey] at CE
 rw [ex, ey, HK.out]
 obtain ⟨xb, hxb⟩ : ∃ b, decide (x.b = y.b) = b := ⟨_, rfl⟩
 rw [hxb] at CE ⊢
 clear ex ey HK hxb
 by_cases h1 : x.to_ = y.to_
 ·have q1 : (x.to_ == y.to_) = true := by rw [beq_iff_eq]; exact h1
  have p1 : decide (x.to_ = y.to_) = true := decide_eq_true h1
  by_cases h2 : x.car = y.car
  ·have q2 : ((x.car : Int) == (y.car : Int)) = true := by rw [beq_iff_eq, h2]
   have p2 : decide (x.car = y.car) = true := decide_eq_true h2
   rw [p1, p2]
   generalize x.to_ = x1 at *
   generalize y.to_ = y1 at *
   generalize x.car = x2 at *
   generalize y.car = y2 at *
   clear h1 h2 p1 p2
   go_enter Tryz.func27, Tryz.ntmps27
   go_wp2_with fail
   refine (CE.out _ (balloc (balloc (Below.refl _ _) _) _)).mono ?_
   rintro e w2 ⟨rfl, rfl⟩
   go_wp2_with fail
   go_ret
   exact ⟨by simp, balloc (balloc (Below.refl _ _) _) _⟩
  ·have q2 : ((x.car : Int) == (y.car : Int)) = false := by rw [beq_eq_false_iff_ne]; omega
   have p2 : decide (x.car = y.car) = false := decide_eq_false h2
   rw [p1, p2]
   clear h1 h2 p1 p2
   go_enter Tryz.func27, Tryz.ntmps27
   go_wp2_with fail
   go_ret
   exact ⟨by simp, balloc (balloc (Below.refl _ _) _) _⟩
 ·have q1 : (x.to_ == y.to_) = false := by rw [beq_eq_false_iff_ne]; exact h1
  have p1 : decide (x.to_ = y.to_) = false := decide_eq_false h1
  rw [p1]
  clear h1 p1
  go_enter Tryz.func27, Tryz.ntmps27
  go_wp2_with fail
  go_ret
  exact ⟨by simp, balloc (balloc (Below.refl _ _) _) _⟩
end Go.Proofs.YtgkelbdgdhkeoaaGreat
/- Nets: slices.EqualFunc of letters, Same, walked. -/
namespace Go.Proofs.YtgkelbdgdhkeoaaGreat
open Go.RowKit
set_option linter.unusedVariables false
set_option linter.unusedSimpArgs false
theorem take_key {L M : List Lt} {k : Nat} {x y : Lt} (h : (L.take k).map key = (M.take k).map key) (hx : L[k]? = some x) (hy : M[k]? = some y) (hk : key x = key y) : (L.take (k + 1)).map key = (M.take (k + 1)).map key := by
 rw [List.take_add_one, List.take_add_one, hx, hy, List.map_append, List.map_append, h]
 simp [hk]
set_option maxRecDepth 100000 in
set_option maxHeartbeats 1600000 in
theorem lequal_any (u v : Value) (L M : List Lt) (w : World) (hu : Rd w 3 u L.length (ltC L)) (hv : Rd w 3 v M.length (ltC M)) (hx : ∀ x ∈ L, Rd w 1 x.v x.b.length (bV x.b)) (hy : ∀ x ∈ M, Rd w 1 x.v x.b.length (bV x.b)) :
  Calls Tryz.prog 26 #[u, v, .func (.func 27) #[] #[]] w fun e w' => e = .returned (.bool (decide (L.map key = M.map key))) ∧ Below w.heap.size w w' := by
 obtain ⟨n, hn⟩ : ∃ n, L.length = n := ⟨_, rfl⟩
 obtain ⟨m, hm⟩ : ∃ n, M.length = n := ⟨_, rfl⟩
 have HU : Hid (∀ W, Below w.heap.size w W → ∀ (k : Nat) (x : Lt), L[k]? = some x → ∃ g o cap, u = .slice (some ⟨g, o, none⟩) n cap ∧ g < W.heap.size ∧ W.cell? ⟨g, o + k * 3, none⟩ = some (.int .i64 x.to_) ∧ W.cell? ⟨g, o + k * 3 + 1, none⟩ = some (.int .i64 (x.car : Int)) ∧ W.cell? ⟨g, o + k * 3 + 2, none⟩ = some x.v) := Lib.hid (fun W hW k x hk => by
  obtain ⟨g, o, cap, e, _, _, hg, a, b, c⟩ := rdL (hu.below hW) hk
  rw [hn] at e
  exact ⟨g, o, cap, e, hg, a, b, c⟩)
 have HV : Hid (∀ W, Below w.heap.size w W → ∀ (k : Nat) (x : Lt), M[k]? = some x → ∃ g o cap, v = .slice (some ⟨g, o, none⟩) m cap ∧ g < W.heap.size ∧ W.cell? ⟨g, o + k * 3, none⟩ = some (.int .i64 x.to_) ∧ W.cell? ⟨g, o + k * 3 + 1, none⟩ = some (.int .i64 (x.car : Int)) ∧ W.cell? ⟨g, o + k * 3 + 2, none⟩ = some x.v) := Lib.hid (fun W hW k x hk => by
  obtain ⟨g, o, cap, e, _, _, hg, a, b, c⟩ := rdL (hv.below hW) hk
  rw [hm] at e
  exact ⟨g, o, cap, e, hg, a, b, c⟩)
 have HX := Lib.hid hx
 have HY := Lib.hid hy
 obtain ⟨au, cu, rfl, _, _, ⟨_, hu1, hu2⟩, _⟩ := hu
 obtain ⟨av, cv, rfl, _, _, ⟨_, hv1, hv2⟩, _⟩ := hv
 have HN := Lib.hid hn
 have HM := Lib.hid hm
 unfold maxLen at hu2 hv2
 rw [hn] at hu1 ⊢
 rw [hm] at hv1 ⊢
 clear hx hy hn hm
 by_cases hnm : n = m
 ·subst hnm
  go_enter Tryz.func26, Tryz.ntmps26
  go_wp2_with fail
  go_loopw [17] (fun i wr => ∃ k : Nat, k ≤ n ∧ i = .int .i64 (k : Int) ∧ (L.take k).map key = (M.take k).map key ∧ Below w.heap.size w wr) (fun i _ => n - (intOf i).toNat)
  case atStart => exact ⟨0, by omega, rfl, rfl, Below.refl _ _⟩
  case round =>
   obtain ⟨k, hk, rfl, hall, hbr⟩ := hrel
   have HA := Lib.hid hall
   have HBR := Lib.hid hbr
   clear hall
   by_cases hlt : k < n
   ·obtain ⟨x, hx⟩ : ∃ x, L[k]? = some x := ⟨_, List.getElem?_eq_getElem (by rw [HN.out]; exact hlt)⟩
    obtain ⟨y, hy⟩ : ∃ x, M[k]? = some x := ⟨_, List.getElem?_eq_getElem (by rw [HM.out]; exact hlt)⟩
    obtain ⟨g1, o1, cc1, e1, hg1, a0, a1, a2⟩ := HU.out _ hbr k x hx
    obtain ⟨g2, o2, cc2, e2, hg2, b0, b1, b2⟩ := HV.out _ hbr k y hy
    obtain ⟨rfl, _, rfl⟩ := Value.slice.inj e1
    obtain ⟨rfl, _, rfl⟩ := Value.slice.inj e2
    have HXY := Lib.hid (And.intro hx hy)
    have CS : Hid (∀ W, Below w.heap.size w W → Calls Tryz.prog 27 #[.agg #[.int .i64 x.to_, .int .i64 (x.car : Int), x.v], .agg #[.int .i64 y.to_, .int .i64 (y.car : Int), y.v]] W fun e w' => e = .returned (.bool (decide (key x = key y))) ∧ Below W.heap.size W w') :=
     Lib.hid (fun W hW => lsame_any x y W ((HX.out x (List.mem_of_getElem? hx)).below hW) ((HY.out y (List.mem_of_getElem? hy)).below hW))
    obtain ⟨ax, cx, ex, _⟩ := HX.out x (List.mem_of_getElem? hx)
    obtain ⟨ay, cy, ey, _⟩ := HY.out y (List.mem_of_getElem? hy)
    rw [ex] at a2 CS
    rw [ey] at b2 CS
    have HXK : Hid (∀ b, decide (key x = key y) = b → (b = true → key x = key y) ∧ (b = false → key x ≠ key y)) := Lib.hid (fun b hb => ⟨fun h => of_decide_eq_true (hb.trans h), fun h => of_decide_eq_false (hb.trans h)⟩)
    obtain ⟨q, hq⟩ : ∃ b, decide (key x = key y) = b := ⟨_, rfl⟩
    rw [hq] at CS
    have HQ := Lib.hid (HXK.out q hq)
    have hb2 : Below w.heap.size w ((wr.alloc (.cells #[.int .i64 x.to_, .int .i64 (x.car : Int), .slice ax x.b.length cx] 61)).alloc (.cells #[.int .i64 y.to_, .int .i64 (y.car : Int), .slice ay y.b.length cy] 61)) := balloc (balloc hbr _) _
    have HB2 := Lib.hid hb2
    clear hx hy e1 e2 ex ey hq HXK hbr hb2
    cases q with
    | true =>
     go_wp2_with fail
     refine (CS.out _ HB2.out).mono ?_
     rintro e w2 ⟨rfl, hb3⟩
     have HB3 := Lib.hid (bthen HB2.out hb3)
     clear hb3
     go_wp2_with fail
     go_roundw
     case rel => exact ⟨k + 1, by omega, by go_num, take_key HA.out HXY.out.1 HXY.out.2 (HQ.out.1 trivial), HB3.out⟩
     case measure => simp [intOf]; omega
    | false =>
     go_wp2_with fail
     refine (CS.out _ HB2.out).mono ?_
     rintro e w2 ⟨rfl, hb3⟩
     have HB3 := Lib.hid (bthen HB2.out hb3)
     clear hb3
     go_wp2_with fail
     go_ret
     have hne : L.map key ≠ M.map key := fun h => HQ.out.2 trivial (by
      have h1 : (L.map key)[k]? = some (key x) := by rw [List.getElem?_map, HXY.out.1]; rfl
      rw [h, List.getElem?_map, HXY.out.2] at h1
      exact (Option.some.inj h1).symm)
     exact ⟨by rw [decide_eq_false hne]; rfl, HB3.out⟩
   ·obtain rfl : k = n := by omega
    have he : L.map key = M.map key := by
     have := HA.out
     rwa [List.take_of_length_le (by rw [HN.out]; exact Nat.le_refl _), List.take_of_length_le (by rw [HM.out]; exact Nat.le_refl _)] at this
    have HE := Lib.hid (decide_eq_true he)
    clear hbr he
    go_wp2_with fail
    go_ret
    exact ⟨by rw [HE.out]; rfl, HBR.out⟩
 ·have q0 : ((n : Int) == (m : Int)) = false := by rw [beq_eq_false_iff_ne]; omega
  have hne : L.map key ≠ M.map key := fun h => by
   have := congrArg List.length h
   rw [List.length_map, List.length_map, HN.out, HM.out] at this
   exact hnm this
  have HE := Lib.hid (decide_eq_false hne)
  clear hne hnm
  go_enter Tryz.func26, Tryz.ntmps26
  go_wp2_with fail
  go_ret
  exact ⟨by rw [HE.out]; rfl, Below.refl _ _⟩
set_option maxRecDepth 100000 in
set_option maxHeartbeats 1600000 in
theorem same_at2 (n0 : Nat) (w : World) (B C : Nat) (sv sw : Value) (L M : List Lt) (h : NetAt n0 w B sv L) (k : NetAt n0 w C sw M) :
  Calls Tryz.prog 9 #[.pointer (some ⟨B, 0, none⟩), .pointer (some ⟨C, 0, none⟩)] w fun e w' => e = .returned (.bool (decide (L.map key = M.map key))) ∧ Below w.heap.size w w' := by
 have C1 := Lib.hid (there_any w _ true h.nv)
 have C2 := Lib.hid (there_any w _ true k.nv)
 have c0 := h.cell.1
 have k0 := k.cell.1
 have CE : Hid (∀ W, Below w.heap.size w W → Calls Tryz.prog 26 #[sv, sw, .func (.func 27) #[] #[]] W fun e w' => e = .returned (.bool (decide (L.map key = M.map key))) ∧ Below W.heap.size W w') :=
  Lib.hid (fun W hW => lequal_any sv sw L M W (Rd.of_own (h.below hW).row) (Rd.of_own (k.below hW).row) (fun x hx => Rd.of_own ((h.below hW).byt x hx)) (fun x hx => Rd.of_own ((k.below hW).byt x hx)))
 obtain ⟨ao, cap, rfl, _⟩ := Rd.of_own h.row
 obtain ⟨bo, cbp, rfl, _⟩ := Rd.of_own k.row
 obtain ⟨q, hq⟩ : ∃ b, decide (L.map key = M.map key) = b := ⟨_, rfl⟩
 rw [hq] at CE ⊢
 have HSS : Hid (∀ X, Below w.heap.size w X → (X.cell? ⟨B, 0, none⟩ = some (.slice ao L.length cap) ∧ X.cell? ⟨C, 0, none⟩ = some (.slice bo M.length cbp)) ∧ Below w.heap.size w X) := Lib.hid (fun X hX => ⟨⟨(h.below hX).cell.1, (k.below hX).cell.1⟩, hX⟩)
 clear h k hq
 go_enter Tryz.func9, Tryz.ntmps9
 go_upto_region 3 with (first
  | (go_at_call 24; with_reducible refine C1.out.mono ?_; rintro e wx ⟨rfl, rfl⟩)
  | (go_at_call 24; with_reducible refine C2.out.mono ?_; rintro e wx ⟨rfl, rfl⟩))
 refine wp_region_held_drew (S := fun X => (X.cell? ⟨B, 0, none⟩ = some (.slice ao L.length cap) ∧ X.cell? ⟨C, 0, none⟩ = some (.slice bo M.length cbp)) ∧ Below w.heap.size w X) (by kernel_rfl) (HSS.out _ (Below.refl _ _).drew) (fun hHeld => ?_)
 refine wpAnyH_take (i := 0) (v := ?_) rfl (by kernel_rfl) (by kernel_rfl) (by kernel_rfl) (fun _ _ _ h => h) (Or.inl ⟨by rfl, ?_⟩) (by assumption) ?_
 rotate_left
 ·(intro w hSw; (try dsimp only at hSw); simp only [List.getElem_toArray, List.getElem_cons_zero, List.getElem_cons_succ]; go_simp; first | done | with_reducible rfl)
 simp only [List.getElem_toArray, List.getElem_cons_zero, List.getElem_cons_succ, Act.put, List.setIfInBounds_toArray, List.set_cons_zero, List.set_cons_succ]
 refine wpAnyH_take (i := 1) (v := ?_) rfl (by kernel_rfl) (by kernel_rfl) (by kernel_rfl) (fun _ _ _ h => h) (Or.inl ⟨by rfl, ?_⟩) (by assumption) ?_
 rotate_left
 ·(intro w hSw; (try dsimp only at hSw); simp only [List.getElem_toArray, List.getElem_cons_zero, List.getElem_cons_succ]; go_simp; first | done | with_reducible rfl)
 simp only [List.getElem_toArray, List.getElem_cons_zero, List.getElem_cons_succ, Act.put, List.setIfInBounds_toArray, List.set_cons_zero, List.set_cons_succ]
 refine wpAnyH_take (i := 2) (v := ?_) rfl (by kernel_rfl) (by kernel_rfl) (by kernel_rfl) (fun _ _ _ h => h) (Or.inl ⟨by rfl, ?_⟩) (by assumption) ?_
 rotate_left
 ·(intro w hSw; (try dsimp only at hSw); simp only [List.getElem_toArray, List.getElem_cons_zero, List.getElem_cons_succ]; go_simp; first | done | with_reducible rfl)
 simp only [List.getElem_toArray, List.getElem_cons_zero, List.getElem_cons_succ, Act.put, List.setIfInBounds_toArray, List.set_cons_zero, List.set_cons_succ]
 refine wpAnyH_take (i := 3) (v := ?_) rfl (by kernel_rfl) (by kernel_rfl) (by kernel_rfl) (fun _ _ _ h => h) (Or.inl ⟨by rfl, ?_⟩) (by assumption) ?_
 rotate_left
 ·(intro w hSw; (try dsimp only at hSw); simp only [List.getElem_toArray, List.getElem_cons_zero, List.getElem_cons_succ]; go_simp; first | done | with_reducible rfl)
 simp only [List.getElem_toArray, List.getElem_cons_zero, List.getElem_cons_succ, Act.put, List.setIfInBounds_toArray, List.set_cons_zero, List.set_cons_succ]
 refine wpAnyH_take (i := 4) (v := ?_) rfl (by kernel_rfl) (by kernel_rfl) (by kernel_rfl) (fun _ _ _ h => h) (Or.inl ⟨by rfl, ?_⟩) (by assumption) ?_
 rotate_left
 ·(intro w hSw; (try dsimp only at hSw); simp only [List.getElem_toArray, List.getElem_cons_zero, List.getElem_cons_succ]; go_simp; first | done | with_reducible rfl)
 simp only [List.getElem_toArray, List.getElem_cons_zero, List.getElem_cons_succ, Act.put, List.setIfInBounds_toArray, List.set_cons_zero, List.set_cons_succ]
 refine wpAnyH_take (i := 5) (v := ?_) rfl (by kernel_rfl) (by kernel_rfl) (by kernel_rfl) (fun _ _ _ h => h) (Or.inl ⟨by rfl, ?_⟩) (by assumption) ?_
 rotate_left
 ·(intro w hSw; (try dsimp only at hSw); simp only [List.getElem_toArray, List.getElem_cons_zero, List.getElem_cons_succ]; go_simp; first | done | with_reducible rfl)
 simp only [List.getElem_toArray, List.getElem_cons_zero, List.getElem_cons_succ, Act.put, List.setIfInBounds_toArray, List.set_cons_zero, List.set_cons_succ]
 refine wpAnyH_take (i := 6) (v := ?_) rfl (by kernel_rfl) (by kernel_rfl) (by kernel_rfl) (fun _ _ _ h => h) (Or.inl ⟨by rfl, ?_⟩) (by assumption) ?_
 rotate_left
 ·(intro w hSw; (try dsimp only at hSw); simp only [List.getElem_toArray, List.getElem_cons_zero, List.getElem_cons_succ]; go_simp; first | done | with_reducible rfl)
 simp only [List.getElem_toArray, List.getElem_cons_zero, List.getElem_cons_succ, Act.put, List.setIfInBounds_toArray, List.set_cons_zero, List.set_cons_succ]
 refine wpAnyH_take (i := 7) (v := ?_) rfl (by kernel_rfl) (by kernel_rfl) (by kernel_rfl) (fun _ _ _ h => h) (Or.inl ⟨by rfl, ?_⟩) (by assumption) ?_
 rotate_left
 ·(intro w hSw; (try dsimp only at hSw); simp only [List.getElem_toArray, List.getElem_cons_zero, List.getElem_cons_succ]; go_simp; first | done | with_reducible rfl)
 simp only [List.getElem_toArray, List.getElem_cons_zero, List.getElem_cons_succ, Act.put, List.setIfInBounds_toArray, List.set_cons_zero, List.set_cons_succ]
 refine wpAnyH_ready (rs := [8]) (by kernel_rfl) (by simp) ?_
 refine AllReadyH.cons rfl (fun K hK => ?_) AllReadyH.nil
 simp only [List.getElem_toArray, List.getElem_cons_zero, List.getElem_cons_succ]
 go_simp
 refine (CE.out _ hHeld.2).mono ?_
 rintro e w1 ⟨rfl, hb1⟩
 dsimp only
 refine hK.out _ _ ?_ (fun hHeld => ?_)
 ·exact HSS.out _ (bthen hHeld.2 hb1)
 clear hK K
 try simp only [Act.put, List.setIfInBounds_toArray, List.set_cons_zero, List.set_cons_succ]
 have HB1 := Lib.hid hHeld.2
 clear hb1
 refine wpAnyH_take (i := 9) (v := ?_) rfl (by kernel_rfl) (by kernel_rfl) (by kernel_rfl) (fun _ _ _ h => h) (Or.inl ⟨by rfl, ?_⟩) (by assumption) ?_
 rotate_left
 ·(intro w hSw; (try dsimp only at hSw); simp only [List.getElem_toArray, List.getElem_cons_zero, List.getElem_cons_succ]; go_simp; first | done | with_reducible rfl)
 simp only [List.getElem_toArray, List.getElem_cons_zero, List.getElem_cons_succ, Act.put, List.setIfInBounds_toArray, List.set_cons_zero, List.set_cons_succ]
 refine wpAnyH_done (by kernel_rfl) ?_ _
 go_wp2_with fail
 go_ret
 exact ⟨rfl, HB1.out⟩
end Go.Proofs.YtgkelbdgdhkeoaaGreat
