/- CountApart, walked. -/
import Derived.Deep.RegionHeld3
import Derived.Test.YtgokaoajpidhnaaPlays6
namespace Go.Proofs.Ytgokaoajpidhnaa
open Go.RowKit
set_option linter.unusedVariables false

theorem Two.same {w w' : World} {p r : Nat} {A : M} {F G : List Nat} (h : Two w p r A F G) (hs : SameAt (F ++ G) w w') : Two w' p r A F G :=
  ⟨h.a.same fun k hk => hs k (by simp [hk]), h.r.same fun k hk => hs k (by simp [hk]), h.d, h.ok⟩
theorem Two.lt {w : World} {p r : Nat} {A : M} {F G : List Nat} (h : Two w p r A F G) : ∀ k ∈ F ++ G, k < w.heap.size := fun k hk => by
  rcases List.mem_append.1 hk with h1 | h1
  · exact h.a.lt k h1
  · exact h.r.lt k h1
/-- Two pairs of areas, apart. -/
def Run2 (w wr : World) (p r q s : Nat) : Prop :=
  ∃ A F G A2 F2 G2, Two wr p r A F G ∧ Two wr q s A2 F2 G2 ∧ (∀ k ∈ F ++ G, k ∉ F2 ++ G2) ∧ Below w.heap.size w wr ∧ (∀ j ∈ F ++ G, w.heap.size ≤ j) ∧ ∀ j ∈ F2 ++ G2, w.heap.size ≤ j
theorem Run2.swap {w wr : World} {p r q s : Nat} (h : Run2 w wr p r q s) : Run2 w wr q s p r := by
  obtain ⟨A, F, G, A2, F2, G2, h1, h2, h3, h4, h5, h6⟩ := h
  exact ⟨A2, F2, G2, A, F, G, h2, h1, fun k hk hn => h3 k hn hk, h4, h6, h5⟩
theorem Run2.step {w wr w1 : World} {p r q s : Nat} {A2 : M} {F G F2 G2 : List Nat} (h2 : Two wr q s A2 F2 G2) (h3 : ∀ k ∈ F ++ G, k ∉ F2 ++ G2) (h4 : Below w.heap.size w wr) (h5 : ∀ j ∈ F ++ G, w.heap.size ≤ j) (h6 : ∀ j ∈ F2 ++ G2, w.heap.size ≤ j)
    (h : TwoP p r F G wr w1) : Run2 w w1 p r q s := by
  obtain ⟨A', F', G', h7, hl⟩ := h
  have ha := hl.apart h3 h2.lt
  refine ⟨A', F', G', A2, F2, G2, h7, h2.same ha.1, ha.2, h4.trans (hl.1.below h5 h4.size), fun j hj => ?_, h6⟩
  rcases hl.2 j hj with h8 | h8
  · exact h5 j h8
  · exact Nat.le_trans h4.size h8
theorem Run2.post {w wr w1 : World} {p r q s : Nat} (h : Run2 w wr p r q s) (hb : Below wr.heap.size wr w1) : Run2 w w1 p r q s := by
  obtain ⟨A, F, G, A2, F2, G2, h1, h2, h3, h4, h5, h6⟩ := h
  exact ⟨A, F, G, A2, F2, G2, h1.below hb, h2.below hb, h3, bthen h4 hb, h5, h6⟩

theorem run2_made {w wr x1 W3 : World} {p r q s : Nat} {A : M} {F G F2 G2 : List Nat} (hT : Two wr p r A F G) (hb : Below w.heap.size w wr) (hF : ∀ j ∈ F ++ G, w.heap.size ≤ j) (hA2 : IA x1 q A F2) (hF2 : ∀ k ∈ F2, wr.heap.size ≤ k)
    (hb1 : Below wr.heap.size wr x1) (hx : Below x1.heap.size x1 W3) (hR : RA W3 s A G2) (hG2 : ∀ k ∈ G2, x1.heap.size ≤ k) : Run2 w W3 p r q s := by
  have s1 := hb.size
  have s2 := hb1.size
  refine ⟨A, F, G, A, F2, G2, hT.below (bthen hb1 hx), ⟨IA.below hA2 hx, hR, fun k hk hg => ?_, hT.ok⟩, fun k hk hn => ?_, bthen hb (bthen hb1 hx), hF, fun j hj => ?_⟩
  · have := hA2.lt k hk
    have := hG2 k hg
    omega
  · have := hT.lt k hk
    rcases List.mem_append.1 hn with h | h
    · have := hF2 k h; omega
    · have := hG2 k h; omega
  · rcases List.mem_append.1 hj with h | h
    · have := hF2 j h; omega
    · have := hG2 j h; omega
/-- A clone of the reference's that is not empty. -/
theorem rown_row {W : World} {b n : Nat} {v : Value} {l : List Nat} (ho : W.ownsRow b 3 1 v n (kV .i64 l)) (hn : 0 < n) : ∃ g cap, v = .slice (some ⟨g, 0, none⟩) n cap ∧ b ≤ g ∧ Row 3 .i64 W g n cap l := by
  refine Row.of_own ho ?_
  rintro rfl
  rcases ho.2 with ⟨_, h0⟩ | ⟨g, cap, cur, hv, _⟩
  · omega
  · cases hv
theorem rbox_area {w w1 w2 : World} {a b c1 c2 : Nat} {A : M} (r1 : Row 3 .i64 w1 a A.now.length c1 A.now) (hb1 : Below w.heap.size w w1) (ha : w.heap.size ≤ a)
    (r2 : Row 3 .i64 w2 b A.was.length c2 A.was) (hb2 : Below w1.heap.size w1 w2) (hb : w1.heap.size ≤ b) :
    ∃ F', RA (w2.alloc (.cells #[.slice (some ⟨a, 0, none⟩) A.now.length c1, .slice (some ⟨b, 0, none⟩) A.was.length c2, .int .i64 (A.at_ : Int), .int .i64 (A.kept : Int)] 63)) w2.heap.size A F' ∧ ∀ k ∈ F', w.heap.size ≤ k := by
  have q1 := r1.lt
  have q2 := r2.lt
  have s1 := hb1.size
  have s2 := hb2.size
  refine ⟨[w2.heap.size, a, b], ⟨a, b, c1, c2, rfl, heap_alloc_new _ _, ?_, ?_, by omega, by omega, by omega⟩, ?_⟩
  · exact r1.same (by rw [Below.heap_alloc _ _ a (by omega), hb2.block a q1])
  · exact r2.same (Below.heap_alloc _ _ b q2)
  · intro k hk
    simp only [List.mem_cons, List.not_mem_nil, or_false] at hk
    rcases hk with rfl | rfl | rfl <;> omega

set_option maxRecDepth 100000 in
set_option maxHeartbeats 3200000 in
/-- Too much, or nothing: the chapter's rows alone. -/
theorem apart_much {w : World} {v u1 u2 u3 : Value} {n m1 m2 m3 : Nat} {xs : List Nat} (h : Rd w 1 v n (kV .u16 xs)) (hu1 : Acts w u1 m1) (hu2 : Acts w u2 m2) (hu3 : Acts w u3 m3)
    (hn : n < 1 ∨ (1 ≤ n ∧ 50 < n) ∨ (1 ≤ n ∧ n ≤ 50 ∧ 30 < m1) ∨ (1 ≤ n ∧ n ≤ 50 ∧ m1 ≤ 30 ∧ 30 < m2) ∨ (1 ≤ n ∧ n ≤ 50 ∧ m1 ≤ 30 ∧ m2 ≤ 30 ∧ 30 < m3)) :
    Calls Try.prog 8 #[v, u1, u2, u3] w fun e w' => e = .returned (.bool true) ∧ Below w.heap.size w w' := by
  obtain ⟨ao, cap, rfl, hl, hm, hcap, hc⟩ := h
  obtain ⟨bo1, uc1, rfl, hmu1, hcu1⟩ := hu1
  obtain ⟨bo2, uc2, rfl, hmu2, hcu2⟩ := hu2
  obtain ⟨bo3, uc3, rfl, hmu3, hcu3⟩ := hu3
  have K := known6 (w := w)
  unfold maxLen at hm hmu1 hmu2 hmu3
  clear hl hcap hc hcu1 hcu2 hcu3
  rcases hn with h1 | ⟨h0, h1⟩ | ⟨h0, h1, h2⟩ | ⟨h0, h1, h2, h3⟩ | ⟨h0, h1, h2, h3, h4⟩
  all_goals
    go_enter Try.func8, Try.ntmps8
    go_wp2_with fail
    refine (K).mono ?_
    rintro e w1 ⟨rfl, hb⟩
    have HB := Lib.hid hb
    go_wp2_with fail
    go_ret
    exact ⟨rfl, HB.out⟩

set_option maxRecDepth 100000 in
set_option maxHeartbeats 12800000 in
theorem apart_in {w : World} {v u1 u2 u3 : Value} {n m1 m2 m3 : Nat} {xs : List Nat} (h : Rd w 1 v n (kV .u16 xs)) (hxs : ∀ x ∈ xs, x < 65536) (hu1 : Acts w u1 m1) (hu2 : Acts w u2 m2) (hu3 : Acts w u3 m3)
    (hn1 : 1 ≤ n) (hn2 : n ≤ 50) (hm1 : m1 ≤ 30) (hm2 : m2 ≤ 30) (hm3 : m3 ≤ 30) :
    Calls Try.prog 8 #[v, u1, u2, u3] w fun e w' => e = .returned (.bool true) ∧ Below w.heap.size w w' := by
  have C1 := begin_in v n xs h ⟨hn1, by omega⟩ hxs
  have HU1 := Lib.hid hu1
  have HU2 := Lib.hid hu2
  have HU3 := Lib.hid hu3
  obtain ⟨ao, cap, rfl, hl, hm, hcap, hc⟩ := h
  obtain ⟨bo1, uc1, rfl, hmu1, hcu1⟩ := hu1
  obtain ⟨bo2, uc2, rfl, hmu2, hcu2⟩ := hu2
  obtain ⟨bo3, uc3, rfl, hmu3, hcu3⟩ := hu3
  unfold pt at C1
  clear hl hcap hc hcu1 hcu2 hcu3 hm hmu1 hmu2 hmu3 hxs
  go_enter Try.func8, Try.ntmps8
  go_wp2_with fail
  refine (C1).mono ?_
  rintro e w1 ⟨p, r, F, G, rfl, hT, hb, hF⟩
  have HR : Hid (Run w w1 p r) := Lib.hid ⟨_, F, G, hT, hb, hF⟩
  clear C1 hT hb hF
  go_wp2_with fail
  go_loopw [11] (fun i wr => ∃ k : Nat, k ≤ m1 ∧ i = .int .i64 k ∧ Run w wr p r) (fun i _ => m1 - (intOf i).toNat)
  case atStart => exact ⟨0, by omega, rfl, HR.out⟩
  case round =>
    obtain ⟨k, hk, rfl, hR⟩ := hrel
    obtain ⟨A, F, G, hT, hb, hF⟩ := hR
    by_cases hlt : k < m1
    · obtain ⟨ao', cap', hv, _, hcc⟩ := HU1.out.below hb
      obtain ⟨b, off, x, y, rfl, hbl, c0, c1⟩ := hcc k hlt
      have hao := (Value.slice.inj hv).1
      subst hao
      have C1 := do_any hT x y
      have HB := Lib.hid (And.intro hb hF)
      unfold pt at C1
      clear hcc hv hb hF hT HR
      go_wp2_with fail
      refine C1.mono ?_
      rintro e w1 ⟨rfl, hP⟩
      have HS := Lib.hid (Run.step HB.out.1 HB.out.2 hP)
      clear hP C1
      go_wp2_with fail
      go_roundw
      case rel => exact ⟨k + 1, by omega, by go_num, HS.out⟩
      case measure => simp [intOf]; omega
    · obtain rfl : k = m1 := by omega
      have hp0 := hT.ok.pos
      have hp1 := hT.ok.max
      have HL := Lib.hid hT.ok.len
      obtain ⟨g1, g2, c1, c2, hG, hrr⟩ := hT.r
      have k0 := hrr.k0
      have k1 := hrr.k1
      have k2 := hrr.k2
      have k3 := hrr.k3
      have HT := Lib.hid hT
      have HRR := Lib.hid hrr
      have HB := Lib.hid (And.intro hb hF)
      have hB0 : Below wr.heap.size wr wr.drew := (Below.refl _ _).drew
      have k0' : wr.drew.cell? ⟨r, 0, none⟩ = _ := k0
      have k1' : wr.drew.cell? ⟨r, 1, none⟩ = _ := k1
      have k2' : wr.drew.cell? ⟨r, 2, none⟩ = _ := k2
      have k3' : wr.drew.cell? ⟨r, 3, none⟩ = _ := k3
      clear hb hF hT hG hrr
      go_wp2_with fail
      go_region_held3 (fun W => W.cell? ⟨r, 0, none⟩ = some (.slice (some ⟨g1, 0, none⟩) A.now.length c1) ∧ W.cell? ⟨r, 1, none⟩ = some (.slice (some ⟨g2, 0, none⟩) A.was.length c2) ∧ W.cell? ⟨r, 2, none⟩ = some (.int .i64 (A.at_ : Int)) ∧ W.cell? ⟨r, 3, none⟩ = some (.int .i64 (A.kept : Int)) ∧ Below wr.heap.size wr W)
        (first | (go_keep; done) | (go_split_ands; exact ⟨cell_later hbx (by assumption), cell_later hbx (by assumption), cell_later hbx (by assumption), cell_later hbx (by assumption), bthen (by assumption) hbx⟩) | (go_split_ands; exact ⟨cell_later (balloc (Below.refl _ _) _) (by assumption), cell_later (balloc (Below.refl _ _) _) (by assumption), cell_later (balloc (Below.refl _ _) _) (by assumption), cell_later (balloc (Below.refl _ _) _) (by assumption), balloc (by assumption) _⟩) | (go_split_ands; exact balloc (by assumption) _) | (go_split_ands; exact cell_later (balloc (Below.refl _ _) _) (by assumption)))
        (first
          | (go_at_call 37; go_split_ands; refine (copy_any (HT.out.below (by assumption)).a HT.out.ok).mono ?_; rintro e x1 ⟨q, F2, rfl, hA2, hbx, hF2⟩; have hb1 := hbx; have HA2 := Lib.hid hA2; have HF2 := Lib.hid hF2; clear hA2 hF2)
          | (go_at_call 38; go_split_ands; refine (rclone_any _ _ A.now _ (HRR.out.below (by assumption)).r1.rd (by omega)).mono ?_; rintro e x2 ⟨v1, rfl, ho1, hbx⟩; obtain ⟨a, ca, rfl, hga, r1⟩ := rown_row ho1 hp0; have hb2 := hbx; have hr1 := r1; clear ho1 r1)
          | (go_at_call 38; go_split_ands; refine (rclone_any _ _ A.was _ (HRR.out.below (by assumption)).r2.rd (by have := HL.out; omega)).mono ?_; rintro e x3 ⟨v2, rfl, ho2, hbx⟩; obtain ⟨b, cb, rfl, hgb, r2⟩ := rown_row ho2 (by have := HL.out; omega); have hb3 := hbx; have hr2 := r2; clear ho2 r2))
      obtain ⟨G2, hR2, hG2⟩ := rbox_area hr1 hb2 hga hr2 hb3 hgb
      have H2 : Hid (Run2 w _ p r q x3.heap.size) := Lib.hid (run2_made HT.out HB.out.1 HB.out.2 HA2.out HF2.out (bthen hB0 hb1) (balloc (bthen hb2 hb3) _) hR2 hG2)
      have hCC := HT.out.below (balloc (bthen (bthen (bthen hB0 hb1) hb2) hb3) (.cells #[.slice (some ⟨a, 0, none⟩) A.now.length ca, .slice (some ⟨b, 0, none⟩) A.was.length cb, .int .i64 (A.at_ : Int), .int .i64 (A.kept : Int)] 63))
      have C3 := counts_any hCC.a HT.out.ok
      unfold pt at C3
      clear hR2 hG2 k0 k1 k2 k3 k0' k1' k2' k3' hB0 hb1 hb2 hb3 hr1 hr2 hCC
      generalize x3.heap.size = s at H2 ⊢
      generalize x3.alloc (.cells #[.slice (some ⟨a, 0, none⟩) A.now.length ca, .slice (some ⟨b, 0, none⟩) A.was.length cb, .int .i64 (A.at_ : Int), .int .i64 (A.kept : Int)] 63) = W3 at H2 C3 ⊢
      go_wp2_with fail
      refine C3.mono ?_
      rintro e W4 ⟨v, rfl, ho, hb4⟩
      obtain ⟨g, cap2, rfl, hg, hrow⟩ := own_row ho hp0
      have HRW := Lib.hid (And.intro hrow hb4)
      clear C3 ho hrow hb4
      generalize A.now.length = L at *
      have hL0 : (L : Int) ≤ 1000 := by omega
      go_wp2_with fail
      go_loopw [15] (fun i wx => ∃ (k : Nat) (ys : List Nat), k ≤ L ∧ i = .int .i64 k ∧ Row 65 .u16 wx g L cap2 ys ∧ Below W3.heap.size W3 wx) (fun i _ => L - (intOf i).toNat)
      case atStart => exact ⟨0, _, by omega, rfl, HRW.out.1, HRW.out.2⟩
      case round =>
        obtain ⟨j, ys, hj, rfl, hrow, hbx⟩ := hrel
        by_cases hlt : j < L
        · have hjl : j < ys.length := by obtain ⟨_, _, hl, _⟩ := hrow; omega
          have q0 := hrow.cell (getN_get hjl)
          have f0 := hrow.frozen j
          have HN := Lib.hid (And.intro (hrow.set j 77) (hbx.setCell (p := ⟨g, j, none⟩) hg (.int .u16 77)))
          clear hrow hbx
          go_wp2_with fail
          go_roundw
          case rel => exact ⟨j + 1, _, by omega, by go_num, HN.out.1, HN.out.2⟩
          case measure => simp [intOf]; omega
        · obtain rfl : j = L := by omega
          have H3 := Lib.hid (H2.out.post hbx)
          clear hrow hbx
          go_wp2_with fail
          go_loopw [16] (fun i wr => ∃ k : Nat, k ≤ m2 ∧ i = .int .i64 k ∧ Run2 w wr p r q s) (fun i _ => m2 - (intOf i).toNat)
          case atStart => exact ⟨0, by omega, rfl, H3.out⟩
          case round =>
            obtain ⟨i2, hi2, rfl, hR⟩ := hrel
            by_cases hlt2 : i2 < m2
            · obtain ⟨A, F, G, A2, F2, G2, h1, h2, h3, hb, h5, h6⟩ := hR
              obtain ⟨ao', cap', hv, _, hcc⟩ := HU2.out.below hb
              obtain ⟨b, off, x, y, rfl, hbl, c0, c1⟩ := hcc i2 hlt2
              have hao := (Value.slice.inj hv).1
              subst hao
              have C1 := do_any h1 x y
              have HS := Lib.hid (fun w1 => Run2.step (p := p) (r := r) (w1 := w1) h2 h3 hb h5 h6)
              unfold pt at C1
              clear hcc hv hb h1 h2 h3 h5 h6
              go_wp2_with fail
              refine C1.mono ?_
              rintro e y1 ⟨rfl, hP⟩
              have HS2 := Lib.hid (HS.out _ hP)
              clear hP C1
              go_wp2_with fail
              go_roundw
              case rel => exact ⟨i2 + 1, by omega, by go_num, HS2.out⟩
              case measure => simp [intOf]; omega
            · obtain rfl : i2 = m2 := by omega
              have H4 := Lib.hid hR.swap
              clear hR
              go_wp2_with fail
              go_loopw [17] (fun i wr => ∃ k : Nat, k ≤ m3 ∧ i = .int .i64 k ∧ Run2 w wr q s p r) (fun i _ => m3 - (intOf i).toNat)
              case atStart => exact ⟨0, by omega, rfl, H4.out⟩
              case round =>
                obtain ⟨i3, hi3, rfl, hR⟩ := hrel
                obtain ⟨A, F, G, A2, F2, G2, h1, h2, h3, hb, h5, h6⟩ := hR
                by_cases hlt3 : i3 < m3
                · obtain ⟨ao', cap', hv, _, hcc⟩ := HU3.out.below hb
                  obtain ⟨b, off, x, y, rfl, hbl, c0, c1⟩ := hcc i3 hlt3
                  have hao := (Value.slice.inj hv).1
                  subst hao
                  have C1 := do_any h1 x y
                  have HS := Lib.hid (fun w1 => Run2.step (p := q) (r := s) (w1 := w1) h2 h3 hb h5 h6)
                  unfold pt at C1
                  clear hcc hv hb h1 h2 h3 h5 h6
                  go_wp2_with fail
                  refine C1.mono ?_
                  rintro e y1 ⟨rfl, hP⟩
                  have HS2 := Lib.hid (HS.out _ hP)
                  clear hP C1
                  go_wp2_with fail
                  go_roundw
                  case rel => exact ⟨i3 + 1, by omega, by go_num, HS2.out⟩
                  case measure => simp [intOf]; omega
                · obtain rfl : i3 = m3 := by omega
                  have C1 := same_any h2
                  have H1' := Lib.hid h1
                  have HB' := Lib.hid hb
                  unfold pt at C1
                  clear h1 h2 h3 hb h5 h6
                  go_wp2_with fail
                  refine C1.mono ?_
                  rintro e y1 ⟨rfl, hb1⟩
                  have C2 := same_any (H1'.out.below hb1)
                  have HB2 := Lib.hid (bthen HB'.out hb1)
                  unfold pt at C2
                  clear C1 hb1
                  go_wp2_with fail
                  refine C2.mono ?_
                  rintro e y2 ⟨rfl, hb2⟩
                  have HB3 := Lib.hid (bthen HB2.out hb2)
                  clear C2 hb2
                  go_wp2_with fail
                  refine known6.mono ?_
                  rintro e y3 ⟨rfl, hb3⟩
                  have HB4 := Lib.hid (bthen HB3.out hb3)
                  clear hb3
                  go_wp2_with fail
                  go_ret
                  exact ⟨rfl, HB4.out⟩

theorem apart_walk {w : World} {v u1 u2 u3 : Value} {n m1 m2 m3 : Nat} {xs : List Nat} (h : Rd w 1 v n (kV .u16 xs)) (hxs : ∀ x ∈ xs, x < 65536) (hu1 : Acts w u1 m1) (hu2 : Acts w u2 m2) (hu3 : Acts w u3 m3) :
    Calls Try.prog 8 #[v, u1, u2, u3] w fun e w' => e = .returned (.bool true) ∧ Below w.heap.size w w' := by
  by_cases h1 : 1 ≤ n ∧ n ≤ 50 ∧ m1 ≤ 30 ∧ m2 ≤ 30 ∧ m3 ≤ 30
  · exact apart_in h hxs hu1 hu2 hu3 h1.1 h1.2.1 h1.2.2.1 h1.2.2.2.1 h1.2.2.2.2
  · exact apart_much h hu1 hu2 hu3 (by omega)
end Go.Proofs.Ytgokaoajpidhnaa
