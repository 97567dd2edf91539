/- The law's acts, walked: Set, Commit, Abort; what does nothing. (Printed by do6.py.) -/
import Derived.Test.YtgokaoajpidhnaaDo6
namespace Go.Proofs.Ytgokaoajpidhnaa
open Go.RowKit
set_option linter.unusedVariables false

set_option maxRecDepth 100000 in
set_option maxHeartbeats 3200000 in
theorem do_set_in {w : World} {p r : Nat} {A : M} {F G : List Nat} (h : Two w p r A F G) (i : Nat) (hi : i < A.now.length) :
    Calls Try.prog 36 #[pt p, pt r, .agg #[.int .i64 4, .int .i64 (i : Int)]] w fun e w' => e = .returned (.bool true) ∧ TwoP p r F G w w' := by
  have hbb := boxed_below w 4 (i : Int)
  have h0 := h.below hbb
  have bk := boxed_k w 4 (i : Int)
  have hr0 := h0.r
  have hlen := h.ok.max
  have HLT := Lib.hid (fun hk : w.heap.size ∈ F => Nat.lt_irrefl _ (h.a.lt _ hk))
  have HLTG := Lib.hid (fun hk : w.heap.size ∈ G => Nat.lt_irrefl _ (h.r.lt _ hk))
  obtain ⟨g1, g2, c1, c2, hG, hrr⟩ := hr0
  have k0 := hrr.k0
  obtain ⟨b0, b1⟩ := bk
  have HPRE := Lib.hid (fun w' (h : TwoP p r F G (boxed w 4 (i : Int)) w') => h.pre hbb)
  have H0 := Lib.hid h0
  unfold boxed at *
  unfold pt
  clear h hrr hG hbb h0
  have hlo : (0 : Int) ≤ (i : Int) := by omega
  go_enter Try.func36, Try.ntmps36
  go_wp2_with fail
  go_quiet (fail)
  have hbd := below_drewN (Below.refl (w.alloc (.cells #[.int .i64 4, .int .i64 (i : Int)] 58)).heap.size (w.alloc (.cells #[.int .i64 4, .int .i64 (i : Int)] 58))) nq
  have H1 := Lib.hid (H0.out.below hbd)
  have HB := Lib.hid hbd
  have c0 := (hbd.cell (p := ⟨w.heap.size, 0, none⟩) (by simp)).trans b0
  have c1' := (hbd.cell (p := ⟨w.heap.size, 1, none⟩) (by simp)).trans b1
  have hwl : w.heap.size < ((w.alloc (.cells #[.int .i64 4, .int .i64 (i : Int)] 58)).drewN nq).heap.size := by simp
  generalize hW : (w.alloc (.cells #[.int .i64 4, .int .i64 (i : Int)] 58)).drewN nq = W at hbd H1 HB c0 c1' hwl ⊢
  clear hW hbd k0 b0 b1 H0
  have C1 := set_in H1.out.a H1.out.ok i hi
  unfold pt at C1
  go_wp2_with fail
  refine C1.mono ?_
  rintro e w1 ⟨rfl, hA, hl⟩
  have HA := Lib.hid (And.intro hA hl)
  obtain ⟨g1, g2, c1, c2, hG, hrr⟩ := (H1.out.one hA hl).1
  have HR := Lib.hid (And.intro hG hrr)
  have k0 := hrr.k0
  have d1 := (hl.cell (p := ⟨w.heap.size, 1, none⟩) hwl HLT.out).trans c1'
  have f2 := hrr.fr 2
  have f3 := hrr.fr 3
  have k2 := hrr.k2
  have k3 := hrr.k3
  clear C1 hA hl hG hrr
  go_wp2_with fail
  go_region
  have R3 := ((HR.out.2.below (Below.refl _ _).drew).setAt i).setKept i
  have HP := Lib.hid (H1.out.two (G' := [r, g1, g2]) HA.out.1 HA.out.2 ⟨g1, g2, c1, c2, rfl, R3⟩ (by
    rw [HR.out.1]
    exact ⟨(((Mods.refl _ w1).drew).setCell (by simp) _).setCell (by simp) _, fun k hk => .inl hk⟩) ⟨H1.out.ok.pos, H1.out.ok.max, H1.out.ok.len, hi, hi, H1.out.ok.now, H1.out.ok.was⟩)
  clear R3
  go_wp2_with fail
  go_ret
  exact ⟨rfl, HPRE.out _ (HP.out.pre HB.out)⟩

set_option maxRecDepth 100000 in
set_option maxHeartbeats 3200000 in
theorem do_commit_pos {w : World} {p r : Nat} {A : M} {F G : List Nat} (h : Two w p r A F G) (n : Int) (hn : 0 ≤ n) :
    Calls Try.prog 36 #[pt p, pt r, .agg #[.int .i64 5, .int .i64 n]] w fun e w' => e = .returned (.bool true) ∧ TwoP p r F G w w' := by
  have hbb := boxed_below w 5 n
  have h0 := h.below hbb
  have bk := boxed_k w 5 n
  have hr0 := h0.r
  have hlen := h.ok.max
  have HLT := Lib.hid (fun hk : w.heap.size ∈ F => Nat.lt_irrefl _ (h.a.lt _ hk))
  have HLTG := Lib.hid (fun hk : w.heap.size ∈ G => Nat.lt_irrefl _ (h.r.lt _ hk))
  obtain ⟨g1, g2, c1, c2, hG, hrr⟩ := hr0
  have k0 := hrr.k0
  obtain ⟨b0, b1⟩ := bk
  have HPRE := Lib.hid (fun w' (h : TwoP p r F G (boxed w 5 n) w') => h.pre hbb)
  have H0 := Lib.hid h0
  unfold boxed at *
  unfold pt
  clear h hrr hG hbb h0
  go_enter Try.func36, Try.ntmps36
  go_wp2_with fail
  go_quiet (fail)
  have hbd := below_drewN (Below.refl (w.alloc (.cells #[.int .i64 5, .int .i64 n] 58)).heap.size (w.alloc (.cells #[.int .i64 5, .int .i64 n] 58))) nq
  have H1 := Lib.hid (H0.out.below hbd)
  have HB := Lib.hid hbd
  have c0 := (hbd.cell (p := ⟨w.heap.size, 0, none⟩) (by simp)).trans b0
  have c1' := (hbd.cell (p := ⟨w.heap.size, 1, none⟩) (by simp)).trans b1
  have hwl : w.heap.size < ((w.alloc (.cells #[.int .i64 5, .int .i64 n] 58)).drewN nq).heap.size := by simp
  generalize hW : (w.alloc (.cells #[.int .i64 5, .int .i64 n] 58)).drewN nq = W at hbd H1 HB c0 c1' hwl ⊢
  clear hW hbd k0 b0 b1 H0
  have C1 := commit_any H1.out.a H1.out.ok
  unfold pt at C1
  go_wp2_with fail
  refine C1.mono ?_
  rintro e w1 ⟨rfl, F1, hA, hl⟩
  have HA := Lib.hid (And.intro hA hl)
  obtain ⟨g1, g2, c1, c2, hG, hrr⟩ := (H1.out.one hA hl).1
  have HR := Lib.hid (And.intro hG hrr)
  clear C1 hA hl
  go_wp2_with fail
  have hrd := HR.out.2.below (Below.refl _ _).drew
  have ka := hrd.k0
  have kb := hrd.k2
  have HRD := Lib.hid hrd
  have HL := Lib.hid H1.out.ok.len
  have hp0 := H1.out.ok.pos
  clear hrd hG hrr
  go_region_with (first | (go_at_call 38; refine (rclone_any _ _ A.now _ HRD.out.r1.rd (by have := HL.out; omega)).mono ?_; rintro e w2 ⟨v1, rfl, ho, hb⟩; obtain ⟨hA1, g, cap, rfl, hgp, hg1, hg2, hge, hr⟩ := rclone_fits HRD.out ho hb (by have := HL.out; omega); have q2 := hA1.k2; have q1 := hA1.k1; have q3 := hA1.k3; have f1 := hA1.fr 1; have f3 := hA1.fr 3; have q3x := (hA1.putWas hr hg1 hgp).k3; have f3x := (hA1.putWas hr hg1 hgp).fr 3; have HA2 := Lib.hid hA1; have HR2 := Lib.hid hr; clear hA1 hr) | fail)
  all_goals
    obtain ⟨G', hR, hm⟩ := rcommit_left HA2.out (bthen (Below.refl _ w1).drew hb) HR2.out hgp hg1 (by simpa using hge)
    have HP := Lib.hid (H1.out.two HA.out.1 HA.out.2 hR (by rw [HR.out.1]; exact hm) ⟨H1.out.ok.pos, H1.out.ok.max, rfl, H1.out.ok.at_, H1.out.ok.at_, H1.out.ok.now, H1.out.ok.now⟩)
    clear hR hm
    go_wp2_with fail
    go_ret
    exact ⟨rfl, HPRE.out _ (HP.out.pre HB.out)⟩

set_option maxRecDepth 100000 in
set_option maxHeartbeats 3200000 in
theorem do_commit_neg {w : World} {p r : Nat} {A : M} {F G : List Nat} (h : Two w p r A F G) (n : Int) (hn : n < 0) :
    Calls Try.prog 36 #[pt p, pt r, .agg #[.int .i64 5, .int .i64 n]] w fun e w' => e = .returned (.bool true) ∧ TwoP p r F G w w' := by
  have hbb := boxed_below w 5 n
  have h0 := h.below hbb
  have bk := boxed_k w 5 n
  have hr0 := h0.r
  have hlen := h.ok.max
  have HLT := Lib.hid (fun hk : w.heap.size ∈ F => Nat.lt_irrefl _ (h.a.lt _ hk))
  have HLTG := Lib.hid (fun hk : w.heap.size ∈ G => Nat.lt_irrefl _ (h.r.lt _ hk))
  obtain ⟨g1, g2, c1, c2, hG, hrr⟩ := hr0
  have k0 := hrr.k0
  obtain ⟨b0, b1⟩ := bk
  have HPRE := Lib.hid (fun w' (h : TwoP p r F G (boxed w 5 n) w') => h.pre hbb)
  have H0 := Lib.hid h0
  unfold boxed at *
  unfold pt
  clear h hrr hG hbb h0
  have hd : decide (0 ≤ n) = false := by simp; omega
  go_enter Try.func36, Try.ntmps36
  go_wp2_with fail
  go_quiet (fail)
  have hbd := below_drewN (Below.refl (w.alloc (.cells #[.int .i64 5, .int .i64 n] 58)).heap.size (w.alloc (.cells #[.int .i64 5, .int .i64 n] 58))) nq
  have H1 := Lib.hid (H0.out.below hbd)
  have HB := Lib.hid hbd
  have c0 := (hbd.cell (p := ⟨w.heap.size, 0, none⟩) (by simp)).trans b0
  have c1' := (hbd.cell (p := ⟨w.heap.size, 1, none⟩) (by simp)).trans b1
  have hwl : w.heap.size < ((w.alloc (.cells #[.int .i64 5, .int .i64 n] 58)).drewN nq).heap.size := by simp
  generalize hW : (w.alloc (.cells #[.int .i64 5, .int .i64 n] 58)).drewN nq = W at hbd H1 HB c0 c1' hwl ⊢
  clear hW hbd k0 b0 b1 H0
  have C1 := commit_any H1.out.a H1.out.ok
  unfold pt at C1
  go_wp2_with fail
  refine C1.mono ?_
  rintro e w1 ⟨rfl, F1, hA, hl⟩
  have HA := Lib.hid (And.intro hA hl)
  obtain ⟨g1, g2, c1, c2, hG, hrr⟩ := (H1.out.one hA hl).1
  have HR := Lib.hid (And.intro hG hrr)
  clear C1 hA hl
  go_wp2_with fail
  have hrd := HR.out.2.below (Below.refl _ _).drew
  have ka := hrd.k0
  have kb := hrd.k2
  have HRD := Lib.hid hrd
  have HL := Lib.hid H1.out.ok.len
  have hp0 := H1.out.ok.pos
  clear hrd hG hrr
  go_region_with (first | (go_at_call 38; refine (rclone_any _ _ A.now _ HRD.out.r1.rd (by have := HL.out; omega)).mono ?_; rintro e w2 ⟨v1, rfl, ho, hb⟩; obtain ⟨hA1, g, cap, rfl, hgp, hg1, hg2, hge, hr⟩ := rclone_fits HRD.out ho hb (by have := HL.out; omega); have q2 := hA1.k2; have q1 := hA1.k1; have q3 := hA1.k3; have f1 := hA1.fr 1; have f3 := hA1.fr 3; have q3x := (hA1.putWas hr hg1 hgp).k3; have f3x := (hA1.putWas hr hg1 hgp).fr 3; have HA2 := Lib.hid hA1; have HR2 := Lib.hid hr; clear hA1 hr) | fail)
  all_goals
    obtain ⟨G', hR, hm⟩ := rcommit_left HA2.out (bthen (Below.refl _ w1).drew hb) HR2.out hgp hg1 (by simpa using hge)
    have HP := Lib.hid (H1.out.two HA.out.1 HA.out.2 hR (by rw [HR.out.1]; exact hm) ⟨H1.out.ok.pos, H1.out.ok.max, rfl, H1.out.ok.at_, H1.out.ok.at_, H1.out.ok.now, H1.out.ok.now⟩)
    clear hR hm
    go_wp2_with fail
    go_ret
    exact ⟨rfl, HPRE.out _ (HP.out.pre HB.out)⟩

set_option maxRecDepth 100000 in
set_option maxHeartbeats 3200000 in
theorem do_abort_pos {w : World} {p r : Nat} {A : M} {F G : List Nat} (h : Two w p r A F G) (n : Int) (hn : 0 ≤ n) :
    Calls Try.prog 36 #[pt p, pt r, .agg #[.int .i64 6, .int .i64 n]] w fun e w' => e = .returned (.bool true) ∧ TwoP p r F G w w' := by
  have hbb := boxed_below w 6 n
  have h0 := h.below hbb
  have bk := boxed_k w 6 n
  have hr0 := h0.r
  have hlen := h.ok.max
  have HLT := Lib.hid (fun hk : w.heap.size ∈ F => Nat.lt_irrefl _ (h.a.lt _ hk))
  have HLTG := Lib.hid (fun hk : w.heap.size ∈ G => Nat.lt_irrefl _ (h.r.lt _ hk))
  obtain ⟨g1, g2, c1, c2, hG, hrr⟩ := hr0
  have k0 := hrr.k0
  obtain ⟨b0, b1⟩ := bk
  have HPRE := Lib.hid (fun w' (h : TwoP p r F G (boxed w 6 n) w') => h.pre hbb)
  have H0 := Lib.hid h0
  unfold boxed at *
  unfold pt
  clear h hrr hG hbb h0
  go_enter Try.func36, Try.ntmps36
  go_wp2_with fail
  go_quiet (fail)
  have hbd := below_drewN (Below.refl (w.alloc (.cells #[.int .i64 6, .int .i64 n] 58)).heap.size (w.alloc (.cells #[.int .i64 6, .int .i64 n] 58))) nq
  have H1 := Lib.hid (H0.out.below hbd)
  have HB := Lib.hid hbd
  have c0 := (hbd.cell (p := ⟨w.heap.size, 0, none⟩) (by simp)).trans b0
  have c1' := (hbd.cell (p := ⟨w.heap.size, 1, none⟩) (by simp)).trans b1
  have hwl : w.heap.size < ((w.alloc (.cells #[.int .i64 6, .int .i64 n] 58)).drewN nq).heap.size := by simp
  generalize hW : (w.alloc (.cells #[.int .i64 6, .int .i64 n] 58)).drewN nq = W at hbd H1 HB c0 c1' hwl ⊢
  clear hW hbd k0 b0 b1 H0
  have C1 := abort_any H1.out.a H1.out.ok
  unfold pt at C1
  go_wp2_with fail
  refine C1.mono ?_
  rintro e w1 ⟨rfl, F1, hA, hl⟩
  have HA := Lib.hid (And.intro hA hl)
  obtain ⟨g1, g2, c1, c2, hG, hrr⟩ := (H1.out.one hA hl).1
  have HR := Lib.hid (And.intro hG hrr)
  clear C1 hA hl
  go_wp2_with fail
  have hrd := HR.out.2.below (Below.refl _ _).drew
  have ka := hrd.k1
  have kb := hrd.k3
  have HRD := Lib.hid hrd
  have HL := Lib.hid H1.out.ok.len
  have hp0 := H1.out.ok.pos
  clear hrd hG hrr
  go_region_with (first | (go_at_call 38; refine (rclone_any _ _ A.was _ HRD.out.r2.rd (by have := HL.out; omega)).mono ?_; rintro e w2 ⟨v1, rfl, ho, hb⟩; obtain ⟨hA1, g, cap, rfl, hgp, hg1, hg2, hge, hr⟩ := rclone_fits HRD.out ho hb (by have := HL.out; omega); have q2 := hA1.k2; have q0 := hA1.k0; have q3 := hA1.k3; have f0 := hA1.fr 0; have f2 := hA1.fr 2; have q2x := (hA1.putNow hr (Ne.symm hg2) hgp).k2; have f2x := (hA1.putNow hr (Ne.symm hg2) hgp).fr 2; have HA2 := Lib.hid hA1; have HR2 := Lib.hid hr; clear hA1 hr) | fail)
  all_goals
    obtain ⟨G', hR, hm⟩ := rabort_left HA2.out (bthen (Below.refl _ w1).drew hb) HR2.out hgp hg2 (by simpa using hge)
    have HP := Lib.hid (H1.out.two HA.out.1 HA.out.2 hR (by rw [HR.out.1]; exact hm) ⟨by have := H1.out.ok.len; have := H1.out.ok.pos; show 0 < A.was.length; omega, by have := H1.out.ok.len; have := H1.out.ok.max; show A.was.length ≤ 1000; omega, rfl, by have := H1.out.ok.len; have := H1.out.ok.kept; show A.kept < A.was.length; omega, by have := H1.out.ok.len; have := H1.out.ok.kept; show A.kept < A.was.length; omega, H1.out.ok.was, H1.out.ok.was⟩)
    clear hR hm
    go_wp2_with fail
    go_ret
    exact ⟨rfl, HPRE.out _ (HP.out.pre HB.out)⟩

set_option maxRecDepth 100000 in
set_option maxHeartbeats 3200000 in
theorem do_abort_neg {w : World} {p r : Nat} {A : M} {F G : List Nat} (h : Two w p r A F G) (n : Int) (hn : n < 0) :
    Calls Try.prog 36 #[pt p, pt r, .agg #[.int .i64 6, .int .i64 n]] w fun e w' => e = .returned (.bool true) ∧ TwoP p r F G w w' := by
  have hbb := boxed_below w 6 n
  have h0 := h.below hbb
  have bk := boxed_k w 6 n
  have hr0 := h0.r
  have hlen := h.ok.max
  have HLT := Lib.hid (fun hk : w.heap.size ∈ F => Nat.lt_irrefl _ (h.a.lt _ hk))
  have HLTG := Lib.hid (fun hk : w.heap.size ∈ G => Nat.lt_irrefl _ (h.r.lt _ hk))
  obtain ⟨g1, g2, c1, c2, hG, hrr⟩ := hr0
  have k0 := hrr.k0
  obtain ⟨b0, b1⟩ := bk
  have HPRE := Lib.hid (fun w' (h : TwoP p r F G (boxed w 6 n) w') => h.pre hbb)
  have H0 := Lib.hid h0
  unfold boxed at *
  unfold pt
  clear h hrr hG hbb h0
  have hd : decide (0 ≤ n) = false := by simp; omega
  go_enter Try.func36, Try.ntmps36
  go_wp2_with fail
  go_quiet (fail)
  have hbd := below_drewN (Below.refl (w.alloc (.cells #[.int .i64 6, .int .i64 n] 58)).heap.size (w.alloc (.cells #[.int .i64 6, .int .i64 n] 58))) nq
  have H1 := Lib.hid (H0.out.below hbd)
  have HB := Lib.hid hbd
  have c0 := (hbd.cell (p := ⟨w.heap.size, 0, none⟩) (by simp)).trans b0
  have c1' := (hbd.cell (p := ⟨w.heap.size, 1, none⟩) (by simp)).trans b1
  have hwl : w.heap.size < ((w.alloc (.cells #[.int .i64 6, .int .i64 n] 58)).drewN nq).heap.size := by simp
  generalize hW : (w.alloc (.cells #[.int .i64 6, .int .i64 n] 58)).drewN nq = W at hbd H1 HB c0 c1' hwl ⊢
  clear hW hbd k0 b0 b1 H0
  have C1 := abort_any H1.out.a H1.out.ok
  unfold pt at C1
  go_wp2_with fail
  refine C1.mono ?_
  rintro e w1 ⟨rfl, F1, hA, hl⟩
  have HA := Lib.hid (And.intro hA hl)
  obtain ⟨g1, g2, c1, c2, hG, hrr⟩ := (H1.out.one hA hl).1
  have HR := Lib.hid (And.intro hG hrr)
  clear C1 hA hl
  go_wp2_with fail
  have hrd := HR.out.2.below (Below.refl _ _).drew
  have ka := hrd.k1
  have kb := hrd.k3
  have HRD := Lib.hid hrd
  have HL := Lib.hid H1.out.ok.len
  have hp0 := H1.out.ok.pos
  clear hrd hG hrr
  go_region_with (first | (go_at_call 38; refine (rclone_any _ _ A.was _ HRD.out.r2.rd (by have := HL.out; omega)).mono ?_; rintro e w2 ⟨v1, rfl, ho, hb⟩; obtain ⟨hA1, g, cap, rfl, hgp, hg1, hg2, hge, hr⟩ := rclone_fits HRD.out ho hb (by have := HL.out; omega); have q2 := hA1.k2; have q0 := hA1.k0; have q3 := hA1.k3; have f0 := hA1.fr 0; have f2 := hA1.fr 2; have q2x := (hA1.putNow hr (Ne.symm hg2) hgp).k2; have f2x := (hA1.putNow hr (Ne.symm hg2) hgp).fr 2; have HA2 := Lib.hid hA1; have HR2 := Lib.hid hr; clear hA1 hr) | fail)
  all_goals
    obtain ⟨G', hR, hm⟩ := rabort_left HA2.out (bthen (Below.refl _ w1).drew hb) HR2.out hgp hg2 (by simpa using hge)
    have HP := Lib.hid (H1.out.two HA.out.1 HA.out.2 hR (by rw [HR.out.1]; exact hm) ⟨by have := H1.out.ok.len; have := H1.out.ok.pos; show 0 < A.was.length; omega, by have := H1.out.ok.len; have := H1.out.ok.max; show A.was.length ≤ 1000; omega, rfl, by have := H1.out.ok.len; have := H1.out.ok.kept; show A.kept < A.was.length; omega, by have := H1.out.ok.len; have := H1.out.ok.kept; show A.kept < A.was.length; omega, H1.out.ok.was, H1.out.ok.was⟩)
    clear hR hm
    go_wp2_with fail
    go_ret
    exact ⟨rfl, HPRE.out _ (HP.out.pre HB.out)⟩
end Go.Proofs.Ytgokaoajpidhnaa
