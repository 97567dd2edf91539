/- Devices: Same, walked. -/
import Derived.Test.YthkmihedkddnmaaDev23
namespace Go.Proofs.Ythkmihedkddnmaa
open Go.RowKit Go.Maps Wire Cmd
set_option linter.unusedVariables false
set_option linter.unusedSimpArgs false

theorem vl_ext {a b : Vl} (h1 : a.size = b.size) (h2 : a.m = b.m) : a = b := by
  cases a
  cases b
  simp only at h1 h2
  rw [h1, h2]
instance : DecidableEq Vl := fun a b => decidable_of_iff (a.size = b.size ∧ a.m = b.m) ⟨fun h => vl_ext h.1 h.2, fun h => by rw [h]; exact ⟨rfl, rfl⟩⟩
set_option maxRecDepth 100000 in
set_option maxHeartbeats 1600000 in
theorem dsame1_any (w : World) (v1 v2 : Vl) (b1 b2 : Nat) (h1 : MapL w Try.prog 3 RBlk .i64 blkD b1 v1.m) (h2 : MapL w Try.prog 3 RBlk .i64 blkD b2 v2.m) (o1 : v1.Ok) (o2 : v2.Ok) :
    Calls Try.prog 19 #[.agg #[.int .i64 (v1.size : Int), .map (some b1)], .agg #[.int .i64 (v2.size : Int), .map (some b2)]] w fun e w' => e = .returned (.bool (decide (v1 = v2))) ∧ Below w.heap.size w w' := by
  have HB := Lib.hid (balloc (balloc (Below.refl _ w) (.cells #[.int .i64 (v1.size : Int), .map (some b1)] 53)) (.cells #[.int .i64 (v2.size : Int), .map (some b2)] 53))
  have CE := meq_blk _ b1 b2 v1.m v2.m (h1.below HB.out) (h2.below HB.out) o1.ris o2.ris (fun q hq => ⟨by have := o1.lt q hq; have := o1.size; omega, o1.blk q hq⟩) o2.blk
  have HEX : Hid (v1.size = v2.size → decide (v1.m = v2.m) = decide (v1 = v2)) := Lib.hid (fun e => by
    rw [Bool.eq_iff_iff, decide_eq_true_eq, decide_eq_true_eq]
    exact ⟨fun h => vl_ext e h, fun h => by rw [h]⟩)
  have HNX : Hid (v1.size ≠ v2.size → decide (v1 = v2) = false) := Lib.hid (fun e => decide_eq_false (fun h => e (by rw [h])))
  obtain ⟨s1, hs1⟩ : ∃ s, v1.size = s := ⟨_, rfl⟩
  obtain ⟨s2, hs2⟩ : ∃ s, v2.size = s := ⟨_, rfl⟩
  rw [hs1, hs2] at HB HEX HNX CE
  rw [hs1, hs2]
  clear h1 h2 o1 o2 hs1 hs2
  by_cases hs : s1 = s2
  · have HE := Lib.hid (HEX.out hs)
    subst hs
    go_enter Try.func19, Try.ntmps19
    go_wp2_with fail
    refine CE.mono ?_
    rintro e w2 ⟨rfl, hb2⟩
    dsimp only
    have HB2 := Lib.hid (bthen HB.out hb2)
    rw [HE.out]
    clear hb2 CE
    go_wp2_with fail
    go_ret
    exact ⟨rfl, HB2.out⟩
  · have HE := Lib.hid (HNX.out hs)
    have hne : ((s1 : Int) == (s2 : Int)) = false := by rw [beq_eq_false_iff_ne]; omega
    clear hs CE
    go_enter Try.func19, Try.ntmps19
    go_wp2_with fail
    go_ret
    exact ⟨by rw [HE.out]; rfl, HB.out⟩
theorem strip_get {l : List (Nat × (Vl × Nat))} {n : Nat} {x : Vl × Nat} (h : getA n l = some x) : getA n (strip l) = some x.1 := by rw [getA_strip, h]; rfl
set_option maxRecDepth 100000 in
set_option maxHeartbeats 6400000 in
theorem meqf_vol (n1 n2 : Nat) (w : World) (B1 Ba1 B2 Ba2 : Nat) (l1 l2 : List (Nat × (Vl × Nat))) (h1 : DevAt n1 w B1 Ba1 l1) (h2 : DevAt n2 w B2 Ba2 l2) :
    Calls Try.prog 18 #[.map (some Ba1), .map (some Ba2), .func (.func 19) #[] #[]] w fun e w' => e = .returned (.bool (decide (strip l1 = strip l2))) ∧ Below w.heap.size w w' := by
  have ll1 := fun ty => h1.all.len (t := 47) undAll ty
  have ll2 := fun ty => h2.all.len (t := 47) undAll ty
  have H1 := Lib.hid h1
  have H2 := Lib.hid h2
  have K : Keyed Try.prog 24 := int_keyed undU64
  have hown : w.ownsMap Try.prog 24 RVol Ba1 l1.length (encM .u64 volF l1) := h1.all
  have HR1 : Hid (Ris l1) := Lib.hid ((ris_map (fun x : Vl × Nat => x.1)).1 h1.ok.ris)
  clear h1 h2
  by_cases hlen : l1.length = l2.length
  · have HLEN : Hid ((strip l1).length = (strip l2).length) := Lib.hid (by unfold strip; rw [mapA_len, mapA_len]; exact hlen)
    obtain ⟨n, hn⟩ : ∃ n, l1.length = n := ⟨_, rfl⟩
    rw [← hlen, hn] at ll2
    rw [hn] at ll1 hown
    clear hlen hn
    go_enter Try.func18, Try.ntmps18
    go_wp2_with (at_range; refine wpList_range_own _ rfl _ 47 rfl 24 53 K undAll RVol Ba1 _ _ rfl hown ?_; intro w0 hrg0 hg0 hs0)
    have HB0 : Hid (Below w.heap.size w w0) := Lib.hid ⟨hg0.os, hg0.tape, hg0.output, hg0.size, fun k hk => hg0.block k hk (by simp)⟩
    have HRG0 := Lib.hid hrg0
    clear hrg0 hg0 hs0 ll1 ll2 hown
    go_frame
    go_loopw [19] (fun _ wr => ∃ (left : Lit → Bool) (cnt : Nat), wr.ranges Try.prog 24 RVol Ba1 w.heap.size n (encM .u64 volF l1) left cnt ∧ (∀ p ∈ strip l1, left (.int .u64 (p.1 : Int)) = false → getA p.1 (strip l2) = some p.2) ∧ Below w.heap.size w wr) (fun _ wr => wr.rangeLeft Ba1 w.heap.size)
    case atStart =>
      refine ⟨_, _, HRG0.out, fun p hp hl => ?_, HB0.out⟩
      rw [has_enc] at hl
      obtain ⟨b, hb⟩ := strip_in hp
      cases hg : getA p.1 l1 with
      | some x => rw [hg] at hl; cases hl
      | none => exact absurd rfl (getA_none hg _ hb)
    case round =>
      obtain ⟨left, cnt, hrg, hgood, hbw⟩ := hrel
      have HGOOD := Lib.hid hgood
      have HBW := Lib.hid hbw
      clear hgood hbw
      go_wp2_with (at_next; refine wpList_next_ranges _ rfl _ rfl 24 K RVol (Value.int .u64) (fun c : Int × Option Nat => .agg #[.int .i64 c.1, .map c.2]) (fun key kl hkey => keyU_inv hkey) (fun v y hv => RVol_shape hv) Ba1 w.heap.size _ _ _ _ rfl hrg ?_ ?_)
      · intro _ hl0
        have HE : Hid (decide (strip l1 = strip l2) = true) := Lib.hid (decide_eq_true (ris_all H1.out.ok.ris H2.out.ok.ris HLEN.out (fun p hp => HGOOD.out p hp (hl0 _))))
        go_wp2_with fail
        go_ret
        exact ⟨by rw [HE.out]; rfl, HBW.out⟩
      · intro x c1 c2 kl yd yp w1 cnt1 hkey hlx hv hat hrg1 hlt hg1 hs1 hen
        obtain ⟨x', ex, rfl, hwx⟩ := Maps.keyOf_int_inv undU64 hkey
        cases ex
        obtain ⟨kn, y, rfl, hgy, hyd⟩ := at_found hat
        obtain ⟨hval, _⟩ := RVol_inv (x := ((y.1.size : Int), some y.2)) (by rw [hv, hyd]; rfl)
        obtain ⟨rfl, rfl⟩ : c1 = (y.1.size : Int) ∧ c2 = some y.2 := by simpa using hval
        have HGY := Lib.hid hgy
        have HLX := Lib.hid hlx
        have HCN := Lib.hid hlt
        have HLE := Lib.hid hrg.left_eq
        have HRG1 := Lib.hid hrg1
        have HKN : Hid (kn < 18446744073709551616) := Lib.hid (Nat.lt_trans (H1.out.ok.nat (kn, y.1) (by unfold strip mapA; exact List.mem_map.2 ⟨_, getA_some hgy, rfl⟩)).2 (by decide))
        have HBW1 : Hid (Below w.heap.size w w1) := Lib.hid (HBW.out.grown hg1 HBW.out.size (fun k e => by cases e; exact Nat.le_refl _))
        have HY1 := Lib.hid (H1.out.ok.vol (kn, y.1) (by unfold strip mapA; exact List.mem_map.2 ⟨_, getA_some hgy, rfl⟩))
        obtain ⟨s, p, b, hlk, hcase⟩ := (H2.out.below HBW1.out).looked HKN.out
        have HLK := Lib.hid hlk
        have HCASE := Lib.hid hcase
        clear hkey hlx hv hat hrg1 hlt hs1 hgy hyd hwx hg1 hrg hval hlk hcase
        obtain ⟨w2, hw2⟩ : ∃ W, w1.alloc (.cells #[.int .i64 (y.1.size : Int), .map (some y.2)] 53) = W := ⟨_, rfl⟩
        have hb2 : Below w1.heap.size w1 w2 := by rw [← hw2]; exact balloc (Below.refl _ _) _
        have hx2 : w2.heap[w1.heap.size]? = some (.cells #[.int .i64 (y.1.size : Int), .map (some y.2)] 53 (0, 0)) := by rw [← hw2]; exact heap_alloc_new w1 _
        obtain ⟨w3, hw3⟩ : ∃ W, w2.alloc (.cells #[.int .i64 (s : Int), .map p] 53) = W := ⟨_, rfl⟩
        have hb3 : Below w2.heap.size w2 w3 := by rw [← hw3]; exact balloc (Below.refl _ _) _
        have hx3 : w3.heap[w2.heap.size]? = some (.cells #[.int .i64 (s : Int), .map p] 53 (0, 0)) := by rw [← hw3]; exact heap_alloc_new w2 _
        have hlk2 := HLK.out w2 hb2
        have HB3 := Lib.hid (bthen hb2 hb3)
        have hx23 := (hb3.block _ (Array.getElem?_eq_some_iff.1 hx2).1).trans hx2
        have a0 := cellOf hx23 0 (v := .int .i64 (y.1.size : Int)) rfl
        have a1 := cellOf hx23 1 (v := .map (some y.2)) rfl
        have b0 := cellOf hx3 0 (v := .int .i64 (s : Int)) rfl
        have b1 := cellOf hx3 1 (v := .map p) rfl
        clear hb2 hx2 hb3 hx3 hx23
        rcases HCASE.out with ⟨x, hg2, rfl, rfl, rfl⟩ | ⟨hg2, rfl, rfl, rfl⟩
        · have HG2 := Lib.hid (strip_get hg2)
          have CE := dsame1_any w3 y.1 x.1 y.2 x.2 ((H1.out.vol _ (getA_some HGY.out)).below (bthen HBW1.out HB3.out)) ((H2.out.vol _ (getA_some hg2)).below (bthen HBW1.out HB3.out)) HY1.out (H2.out.ok.vol (kn, x.1) (by unfold strip mapA; exact List.mem_map.2 ⟨_, getA_some hg2, rfl⟩))
          obtain ⟨z, hz⟩ : ∃ z, decide (y.1 = x.1) = z := ⟨_, rfl⟩
          have HZZ := Lib.hid hz
          rw [hz] at CE
          clear hz hg2
          go_wp2_with fail
          refine CE.mono ?_
          rintro e w4 ⟨rfl, hb4⟩
          dsimp only
          have HB4 := Lib.hid (bthen HB3.out hb4)
          clear hb4 a0 a1 b0 b1 hlk2 hw2 hw3 hen CE
          cases z with
          | false =>
            have HE : Hid (decide (strip l1 = strip l2) = false) := Lib.hid (decide_eq_false (fun e => by
              have h1 := strip_get HGY.out
              rw [e, HG2.out] at h1
              exact of_decide_eq_false HZZ.out (Option.some.inj h1).symm))
            go_wp2_with fail
            go_ret
            exact ⟨by rw [HE.out]; rfl, bthen HBW1.out HB4.out⟩
          | true =>
            go_wp2_with fail
            have hg4 : w1.grownBy w4 none := ⟨HB4.out.os, HB4.out.tape, HB4.out.output, HB4.out.size, fun k hk _ => HB4.out.block k hk⟩
            have HRG4 := Lib.hid (HRG1.out.kept hg4 (by simp) (by simp))
            go_roundw
            case rel =>
              refine ⟨_, cnt1, HRG4.out, fun q hq hl => ?_, bthen HBW1.out HB4.out⟩
              rw [same_enc] at hl
              by_cases e : q.1 = kn
              · have h1 := strip_get HGY.out
                have h2 : getA q.1 (strip l1) = some q.2 := by
                  obtain ⟨i, hi⟩ := List.getElem?_of_mem hq
                  exact getA_at H1.out.ok.ris hi
                rw [e, h1] at h2
                rw [e, HG2.out, ← Option.some.inj h2, of_decide_eq_true HZZ.out]
              · have e2 : (q.1 == kn) = false := by rw [beq_eq_false_iff_ne]; exact e
                rw [e2] at hl
                exact HGOOD.out q hq (by simpa using hl)
            case measure => rw [HRG4.out.left_eq, HLE.out]; exact HCN.out
        · have HE : Hid (decide (strip l1 = strip l2) = false) := Lib.hid (decide_eq_false (fun e => by
            have h1 := strip_get HGY.out
            rw [e, getA_strip, hg2] at h1
            cases h1))
          clear hg2
          go_wp2_with fail
          go_ret
          exact ⟨by rw [HE.out]; rfl, by have h3 := HB3.out; rw [← hw3] at h3; exact bthen HBW1.out h3⟩
  · have HE : Hid (decide (strip l1 = strip l2) = false) := Lib.hid (decide_eq_false (fun e => hlen (by
      have := congrArg List.length e
      unfold strip at this
      rwa [mapA_len, mapA_len] at this)))
    have hne : ((l1.length : Int) == (l2.length : Int)) = false := by rw [beq_eq_false_iff_ne]; omega
    obtain ⟨m1, hm1⟩ : ∃ n, l1.length = n := ⟨_, rfl⟩
    obtain ⟨m2, hm2⟩ : ∃ n, l2.length = n := ⟨_, rfl⟩
    rw [hm1] at ll1 hne
    rw [hm2] at ll2 hne
    clear hlen hm1 hm2 hown
    go_enter Try.func18, Try.ntmps18
    go_wp2_with fail
    go_ret
    exact ⟨by rw [HE.out]; rfl, Below.refl _ _⟩
set_option maxRecDepth 100000 in
set_option maxHeartbeats 3200000 in
theorem dsame_in (n1 n2 : Nat) (w : World) (B1 Ba1 B2 Ba2 : Nat) (l1 l2 : List (Nat × (Vl × Nat))) (h1 : DevAt n1 w B1 Ba1 l1) (h2 : DevAt n2 w B2 Ba2 l2) :
    Calls Try.prog 11 #[.pointer (some ⟨B1, 0, none⟩), .pointer (some ⟨B2, 0, none⟩)] w fun e w' => e = .returned (.bool (decide (strip l1 = strip l2))) ∧ Below w.heap.size w w' := by
  have CT1 := dthere_any w _ true h1.dv
  have CT2 := dthere_any w _ true h2.dv
  have HE : Hid (∀ X, Below w.heap.size w X → Calls Try.prog 18 #[.map (some Ba1), .map (some Ba2), .func (.func 19) #[] #[]] X fun e w' => e = .returned (.bool (decide (strip l1 = strip l2))) ∧ Below X.heap.size X w') := Lib.hid (fun X hX => meqf_vol n1 n2 X B1 Ba1 B2 Ba2 l1 l2 (h1.below hX) (h2.below hX))
  have H1 := Lib.hid h1
  have H2 := Lib.hid h2
  obtain ⟨z, hz⟩ : ∃ z, decide (strip l1 = strip l2) = z := ⟨_, rfl⟩
  rw [hz] at HE ⊢
  clear h1 h2 hz
  go_enter Try.func11, Try.ntmps11
  go_wp2_with fail
  refine CT1.mono ?_
  rintro e w1 ⟨rfl, rfl⟩
  go_wp2_with fail
  refine CT2.mono ?_
  rintro e w1 ⟨rfl, rfl⟩
  go_wp2_with fail
  clear CT1 CT2
  have HSS : Hid (∀ X, Below w.heap.size w X → (X.cell? ⟨B1, 0, none⟩ = some (.map (some Ba1)) ∧ X.cell? ⟨B2, 0, none⟩ = some (.map (some Ba2))) ∧ Below w.heap.size w X) := Lib.hid (fun X hb => ⟨⟨(World.cell?_of_block (hb.block _ (H1.out.lt))).trans (H1.out.cell), (World.cell?_of_block (hb.block _ (H2.out.lt))).trans (H2.out.cell)⟩, hb⟩)
  refine wp_region_held_drew (S := fun X => (X.cell? ⟨B1, 0, none⟩ = some (.map (some Ba1)) ∧ X.cell? ⟨B2, 0, none⟩ = some (.map (some Ba2))) ∧ Below w.heap.size w X) (by kernel_rfl) (HSS.out _ (Below.refl _ _).drew) (fun hHeld => ?_)
  have hbe : Below w.heap.size w w.drew := (Below.refl _ _).drew
  obtain ⟨wd, hwd⟩ : ∃ y, w.drew = y := ⟨_, rfl⟩
  rw [hwd] at hHeld hbe ⊢
  have HBE := Lib.hid hbe
  have HS0 : Hid (w.heap.size ≤ wd.heap.size) := Lib.hid HBE.out.size
  clear hwd hbe
  refine wpAnyH_take (i := 0) (v := ?_) rfl (by kernel_rfl) (by kernel_rfl) (by kernel_rfl) (fun _ _ _ h => h) (Or.inl ⟨by rfl, ?_⟩) (by assumption) ?_
  rotate_left
  · (intro w hSw; (try dsimp only at hSw); simp only [List.getElem_toArray, List.getElem_cons_zero, List.getElem_cons_succ]; go_simp; first | done | with_reducible rfl)
  simp only [List.getElem_toArray, List.getElem_cons_zero, List.getElem_cons_succ, Act.put, List.setIfInBounds_toArray, List.set_cons_zero, List.set_cons_succ]
  refine wpAnyH_take (i := 4) (v := ?_) rfl (by kernel_rfl) (by kernel_rfl) (by kernel_rfl) (fun _ _ _ h => h) (Or.inl ⟨by rfl, ?_⟩) (by assumption) ?_
  rotate_left
  · (intro w hSw; (try dsimp only at hSw); simp only [List.getElem_toArray, List.getElem_cons_zero, List.getElem_cons_succ]; go_simp; first | done | with_reducible rfl)
  simp only [List.getElem_toArray, List.getElem_cons_zero, List.getElem_cons_succ, Act.put, List.setIfInBounds_toArray, List.set_cons_zero, List.set_cons_succ]
  refine wpAnyH_take (i := 1) (v := ?_) rfl (by kernel_rfl) (by kernel_rfl) (by kernel_rfl) (fun _ _ _ h => h) (Or.inl ⟨by rfl, ?_⟩) (by assumption) ?_
  rotate_left
  · (intro w hSw; (try dsimp only at hSw); simp only [List.getElem_toArray, List.getElem_cons_zero, List.getElem_cons_succ]; go_simp; first | done | with_reducible rfl)
  simp only [List.getElem_toArray, List.getElem_cons_zero, List.getElem_cons_succ, Act.put, List.setIfInBounds_toArray, List.set_cons_zero, List.set_cons_succ]
  refine wpAnyH_take (i := 5) (v := ?_) rfl (by kernel_rfl) (by kernel_rfl) (by kernel_rfl) (fun _ _ _ h => h) (Or.inl ⟨by rfl, ?_⟩) (by assumption) ?_
  rotate_left
  · (intro w hSw; (try dsimp only at hSw); simp only [List.getElem_toArray, List.getElem_cons_zero, List.getElem_cons_succ]; go_simp; first | done | with_reducible rfl)
  simp only [List.getElem_toArray, List.getElem_cons_zero, List.getElem_cons_succ, Act.put, List.setIfInBounds_toArray, List.set_cons_zero, List.set_cons_succ]
  refine wpAnyH_take (i := 2) (v := ?_) rfl (by kernel_rfl) (by kernel_rfl) (by kernel_rfl) (fun _ _ _ h => h) (Or.inl ⟨by rfl, ?_⟩) (by assumption) ?_
  rotate_left
  · (intro w hSw; (try dsimp only at hSw); simp only [List.getElem_toArray, List.getElem_cons_zero, List.getElem_cons_succ]; go_simp; first | done | with_reducible rfl)
  simp only [List.getElem_toArray, List.getElem_cons_zero, List.getElem_cons_succ, Act.put, List.setIfInBounds_toArray, List.set_cons_zero, List.set_cons_succ]
  refine wpAnyH_take (i := 6) (v := ?_) rfl (by kernel_rfl) (by kernel_rfl) (by kernel_rfl) (fun _ _ _ h => h) (Or.inl ⟨by rfl, ?_⟩) (by assumption) ?_
  rotate_left
  · (intro w hSw; (try dsimp only at hSw); simp only [List.getElem_toArray, List.getElem_cons_zero, List.getElem_cons_succ]; go_simp; first | done | with_reducible rfl)
  simp only [List.getElem_toArray, List.getElem_cons_zero, List.getElem_cons_succ, Act.put, List.setIfInBounds_toArray, List.set_cons_zero, List.set_cons_succ]
  refine wpAnyH_take (i := 3) (v := ?_) rfl (by kernel_rfl) (by kernel_rfl) (by kernel_rfl) (fun _ _ _ h => h) (Or.inl ⟨by rfl, ?_⟩) (by assumption) ?_
  rotate_left
  · (intro w hSw; (try dsimp only at hSw); simp only [List.getElem_toArray, List.getElem_cons_zero, List.getElem_cons_succ]; go_simp; first | done | with_reducible rfl)
  simp only [List.getElem_toArray, List.getElem_cons_zero, List.getElem_cons_succ, Act.put, List.setIfInBounds_toArray, List.set_cons_zero, List.set_cons_succ]
  refine wpAnyH_take (i := 7) (v := ?_) rfl (by kernel_rfl) (by kernel_rfl) (by kernel_rfl) (fun _ _ _ h => h) (Or.inl ⟨by rfl, ?_⟩) (by assumption) ?_
  rotate_left
  · (intro w hSw; (try dsimp only at hSw); simp only [List.getElem_toArray, List.getElem_cons_zero, List.getElem_cons_succ]; go_simp; first | done | with_reducible rfl)
  simp only [List.getElem_toArray, List.getElem_cons_zero, List.getElem_cons_succ, Act.put, List.setIfInBounds_toArray, List.set_cons_zero, List.set_cons_succ]
  refine wpAnyH_ready (rs := [8]) (by kernel_rfl) (by simp) ?_
  refine AllReadyH.cons rfl (fun K hK => ?_) (AllReadyH.nil)
  simp only [List.getElem_toArray, List.getElem_cons_zero, List.getElem_cons_succ]
  go_simp
  refine (HE.out _ HBE.out).mono ?_
  rintro e w3 ⟨rfl, hb3⟩
  dsimp only
  have HBE := Lib.hid (bthen HBE.out hb3)
  have hSp := HSS.out _ HBE.out
  clear hHeld
  refine hK.out _ _ hSp (fun hHeld => ?_)
  clear hSp hK K
  try simp only [Act.put, List.setIfInBounds_toArray, List.set_cons_zero, List.set_cons_succ]
  have HC8 := Lib.hid hb3
  clear hb3
  refine wpAnyH_take (i := 9) (v := ?_) rfl (by kernel_rfl) (by kernel_rfl) (by kernel_rfl) (fun _ _ _ h => h) (Or.inl ⟨by rfl, ?_⟩) (by assumption) ?_
  rotate_left
  · (intro w hSw; (try dsimp only at hSw); simp only [List.getElem_toArray, List.getElem_cons_zero, List.getElem_cons_succ]; go_simp; first | done | with_reducible rfl)
  simp only [List.getElem_toArray, List.getElem_cons_zero, List.getElem_cons_succ, Act.put, List.setIfInBounds_toArray, List.set_cons_zero, List.set_cons_succ]
  refine wpAnyH_done (by kernel_rfl) ?_ _
  have HEND := Lib.hid hHeld.2
  have HSE := Lib.hid hHeld.1
  clear hHeld
  clear HSE HSS HBE
  go_wp2_with fail
  go_ret
  exact ⟨rfl, HEND.out⟩
end Go.Proofs.Ythkmihedkddnmaa
