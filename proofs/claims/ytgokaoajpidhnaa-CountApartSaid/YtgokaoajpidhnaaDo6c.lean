/- The law's acts, walked: Inc and Dec of a block that there is. (Printed by do6.py.) -/
import Derived.Test.YtgokaoajpidhnaaDo6
namespace Go.Proofs.Ytgokaoajpidhnaa
open Go.RowKit
set_option linter.unusedVariables false

set_option maxRecDepth 100000 in
set_option maxHeartbeats 3200000 in
theorem do_inc_full {w : World} {p r : Nat} {A : M} {F G : List Nat} (h : Two w p r A F G) (i : Nat) (hi : i < A.now.length) (hx : getN A.now i = 65535) :
    Calls Try.prog 36 #[pt p, pt r, .agg #[.int .i64 2, .int .i64 (i : Int)]] w fun e w' => e = .returned (.bool true) ∧ TwoP p r F G w w' := by
  have hbb := boxed_below w 2 (i : Int)
  have h0 := h.below hbb
  have bk := boxed_k w 2 (i : Int)
  have hr0 := h0.r
  have hlen := h.ok.max
  have HLT := Lib.hid (fun hk : w.heap.size ∈ F => Nat.lt_irrefl _ (h.a.lt _ hk))
  have HLTG := Lib.hid (fun hk : w.heap.size ∈ G => Nat.lt_irrefl _ (h.r.lt _ hk))
  obtain ⟨g1, g2, c1, c2, hG, hrr⟩ := hr0
  have k0 := hrr.k0
  obtain ⟨b0, b1⟩ := bk
  have HPRE := Lib.hid (fun w' (h : TwoP p r F G (boxed w 2 (i : Int)) w') => h.pre hbb)
  have H0 := Lib.hid h0
  unfold boxed at *
  unfold pt
  clear h hrr hG hbb h0
  have hlo : (0 : Int) ≤ (i : Int) := by omega
  go_enter Try.func36, Try.ntmps36
  go_wp2_with fail
  go_quiet (fail)
  have hbd := below_drewN (Below.refl (w.alloc (.cells #[.int .i64 2, .int .i64 (i : Int)] 58)).heap.size (w.alloc (.cells #[.int .i64 2, .int .i64 (i : Int)] 58))) nq
  have H1 := Lib.hid (H0.out.below hbd)
  have HB := Lib.hid hbd
  have c0 := (hbd.cell (p := ⟨w.heap.size, 0, none⟩) (by simp)).trans b0
  have c1' := (hbd.cell (p := ⟨w.heap.size, 1, none⟩) (by simp)).trans b1
  have hwl : w.heap.size < ((w.alloc (.cells #[.int .i64 2, .int .i64 (i : Int)] 58)).drewN nq).heap.size := by simp
  generalize hW : (w.alloc (.cells #[.int .i64 2, .int .i64 (i : Int)] 58)).drewN nq = W at hbd H1 HB c0 c1' hwl ⊢
  clear hW hbd k0 b0 b1 H0
  have C1 := inc_stop H1.out.a H1.out.ok i hi (.inl hx)
  rw [hx] at C1
  have q := hx
  have HX := Lib.hid q
  unfold pt at C1
  clear hx q
  go_wp2_with fail
  refine C1.mono ?_
  rintro e w1 ⟨rfl, rfl⟩
  obtain ⟨g1, g2, c1, c2, hG, hrr⟩ := H1.out.r
  have k0 := hrr.k0
  have q1 := hrr.r1.cell (getN_get hi)
  rw [HX.out] at q1
  clear C1 hrr hG
  go_wp2_with fail
  go_quiet (fail)
  go_wp2_with fail
  go_ret
  exact ⟨rfl, HPRE.out _ ((TwoP.same H1.out (by repeat (first | exact Below.refl _ _ | refine below_drewN ?_ _))).pre HB.out)⟩

set_option maxRecDepth 100000 in
set_option maxHeartbeats 3200000 in
theorem do_inc_none {w : World} {p r : Nat} {A : M} {F G : List Nat} (h : Two w p r A F G) (i : Nat) (hi : i < A.now.length) (hx : getN A.now i = 0) :
    Calls Try.prog 36 #[pt p, pt r, .agg #[.int .i64 2, .int .i64 (i : Int)]] w fun e w' => e = .returned (.bool true) ∧ TwoP p r F G w w' := by
  have hbb := boxed_below w 2 (i : Int)
  have h0 := h.below hbb
  have bk := boxed_k w 2 (i : Int)
  have hr0 := h0.r
  have hlen := h.ok.max
  have HLT := Lib.hid (fun hk : w.heap.size ∈ F => Nat.lt_irrefl _ (h.a.lt _ hk))
  have HLTG := Lib.hid (fun hk : w.heap.size ∈ G => Nat.lt_irrefl _ (h.r.lt _ hk))
  obtain ⟨g1, g2, c1, c2, hG, hrr⟩ := hr0
  have k0 := hrr.k0
  obtain ⟨b0, b1⟩ := bk
  have HPRE := Lib.hid (fun w' (h : TwoP p r F G (boxed w 2 (i : Int)) w') => h.pre hbb)
  have H0 := Lib.hid h0
  unfold boxed at *
  unfold pt
  clear h hrr hG hbb h0
  have hlo : (0 : Int) ≤ (i : Int) := by omega
  go_enter Try.func36, Try.ntmps36
  go_wp2_with fail
  go_quiet (fail)
  have hbd := below_drewN (Below.refl (w.alloc (.cells #[.int .i64 2, .int .i64 (i : Int)] 58)).heap.size (w.alloc (.cells #[.int .i64 2, .int .i64 (i : Int)] 58))) nq
  have H1 := Lib.hid (H0.out.below hbd)
  have HB := Lib.hid hbd
  have c0 := (hbd.cell (p := ⟨w.heap.size, 0, none⟩) (by simp)).trans b0
  have c1' := (hbd.cell (p := ⟨w.heap.size, 1, none⟩) (by simp)).trans b1
  have hwl : w.heap.size < ((w.alloc (.cells #[.int .i64 2, .int .i64 (i : Int)] 58)).drewN nq).heap.size := by simp
  generalize hW : (w.alloc (.cells #[.int .i64 2, .int .i64 (i : Int)] 58)).drewN nq = W at hbd H1 HB c0 c1' hwl ⊢
  clear hW hbd k0 b0 b1 H0
  have C1 := inc_stop H1.out.a H1.out.ok i hi (.inr hx)
  rw [hx] at C1
  have q := hx
  have HX := Lib.hid q
  unfold pt at C1
  clear hx q
  go_wp2_with fail
  refine C1.mono ?_
  rintro e w1 ⟨rfl, rfl⟩
  obtain ⟨g1, g2, c1, c2, hG, hrr⟩ := H1.out.r
  have k0 := hrr.k0
  have q1 := hrr.r1.cell (getN_get hi)
  rw [HX.out] at q1
  clear C1 hrr hG
  go_wp2_with fail
  go_quiet (fail)
  go_wp2_with fail
  go_quiet (fail)
  go_wp2_with fail
  go_ret
  exact ⟨rfl, HPRE.out _ ((TwoP.same H1.out (by repeat (first | exact Below.refl _ _ | refine below_drewN ?_ _))).pre HB.out)⟩

set_option maxRecDepth 100000 in
set_option maxHeartbeats 3200000 in
theorem do_dec_none {w : World} {p r : Nat} {A : M} {F G : List Nat} (h : Two w p r A F G) (i : Nat) (hi : i < A.now.length) (hx : getN A.now i = 0) :
    Calls Try.prog 36 #[pt p, pt r, .agg #[.int .i64 3, .int .i64 (i : Int)]] w fun e w' => e = .returned (.bool true) ∧ TwoP p r F G w w' := by
  have hbb := boxed_below w 3 (i : Int)
  have h0 := h.below hbb
  have bk := boxed_k w 3 (i : Int)
  have hr0 := h0.r
  have hlen := h.ok.max
  have HLT := Lib.hid (fun hk : w.heap.size ∈ F => Nat.lt_irrefl _ (h.a.lt _ hk))
  have HLTG := Lib.hid (fun hk : w.heap.size ∈ G => Nat.lt_irrefl _ (h.r.lt _ hk))
  obtain ⟨g1, g2, c1, c2, hG, hrr⟩ := hr0
  have k0 := hrr.k0
  obtain ⟨b0, b1⟩ := bk
  have HPRE := Lib.hid (fun w' (h : TwoP p r F G (boxed w 3 (i : Int)) w') => h.pre hbb)
  have H0 := Lib.hid h0
  unfold boxed at *
  unfold pt
  clear h hrr hG hbb h0
  have hlo : (0 : Int) ≤ (i : Int) := by omega
  go_enter Try.func36, Try.ntmps36
  go_wp2_with fail
  go_quiet (fail)
  have hbd := below_drewN (Below.refl (w.alloc (.cells #[.int .i64 3, .int .i64 (i : Int)] 58)).heap.size (w.alloc (.cells #[.int .i64 3, .int .i64 (i : Int)] 58))) nq
  have H1 := Lib.hid (H0.out.below hbd)
  have HB := Lib.hid hbd
  have c0 := (hbd.cell (p := ⟨w.heap.size, 0, none⟩) (by simp)).trans b0
  have c1' := (hbd.cell (p := ⟨w.heap.size, 1, none⟩) (by simp)).trans b1
  have hwl : w.heap.size < ((w.alloc (.cells #[.int .i64 3, .int .i64 (i : Int)] 58)).drewN nq).heap.size := by simp
  generalize hW : (w.alloc (.cells #[.int .i64 3, .int .i64 (i : Int)] 58)).drewN nq = W at hbd H1 HB c0 c1' hwl ⊢
  clear hW hbd k0 b0 b1 H0
  have C1 := dec_stop H1.out.a H1.out.ok i hi hx
  have q := hx
  have HX := Lib.hid q
  unfold pt at C1
  clear hx q
  go_wp2_with fail
  refine C1.mono ?_
  rintro e w1 ⟨rfl, rfl⟩
  obtain ⟨g1, g2, c1, c2, hG, hrr⟩ := H1.out.r
  have k0 := hrr.k0
  have q1 := hrr.r1.cell (getN_get hi)
  rw [HX.out] at q1
  clear C1 hrr hG
  go_wp2_with fail
  go_quiet (fail)
  go_wp2_with fail
  go_ret
  exact ⟨rfl, HPRE.out _ ((TwoP.same H1.out (by repeat (first | exact Below.refl _ _ | refine below_drewN ?_ _))).pre HB.out)⟩

set_option maxRecDepth 100000 in
set_option maxHeartbeats 3200000 in
theorem do_inc_in {w : World} {p r : Nat} {A : M} {F G : List Nat} (h : Two w p r A F G) (i : Nat) (hi : i < A.now.length) (h0 : getN A.now i ≠ 0) (h5 : getN A.now i ≠ 65535) :
    Calls Try.prog 36 #[pt p, pt r, .agg #[.int .i64 2, .int .i64 (i : Int)]] w fun e w' => e = .returned (.bool true) ∧ TwoP p r F G w w' := by
  have hbb := boxed_below w 2 (i : Int)
  have h0 := h.below hbb
  have bk := boxed_k w 2 (i : Int)
  have hr0 := h0.r
  have hlen := h.ok.max
  have HLT := Lib.hid (fun hk : w.heap.size ∈ F => Nat.lt_irrefl _ (h.a.lt _ hk))
  have HLTG := Lib.hid (fun hk : w.heap.size ∈ G => Nat.lt_irrefl _ (h.r.lt _ hk))
  obtain ⟨g1, g2, c1, c2, hG, hrr⟩ := hr0
  have k0 := hrr.k0
  obtain ⟨b0, b1⟩ := bk
  have HPRE := Lib.hid (fun w' (h : TwoP p r F G (boxed w 2 (i : Int)) w') => h.pre hbb)
  have H0 := Lib.hid h0
  unfold boxed at *
  unfold pt
  clear h hrr hG hbb h0
  have hlo : (0 : Int) ≤ (i : Int) := by omega
  go_enter Try.func36, Try.ntmps36
  go_wp2_with fail
  go_quiet (fail)
  have hbd := below_drewN (Below.refl (w.alloc (.cells #[.int .i64 2, .int .i64 (i : Int)] 58)).heap.size (w.alloc (.cells #[.int .i64 2, .int .i64 (i : Int)] 58))) nq
  have H1 := Lib.hid (H0.out.below hbd)
  have HB := Lib.hid hbd
  have c0 := (hbd.cell (p := ⟨w.heap.size, 0, none⟩) (by simp)).trans b0
  have c1' := (hbd.cell (p := ⟨w.heap.size, 1, none⟩) (by simp)).trans b1
  have hwl : w.heap.size < ((w.alloc (.cells #[.int .i64 2, .int .i64 (i : Int)] 58)).drewN nq).heap.size := by simp
  generalize hW : (w.alloc (.cells #[.int .i64 2, .int .i64 (i : Int)] 58)).drewN nq = W at hbd H1 HB c0 c1' hwl ⊢
  clear hW hbd k0 b0 b1 H0
  have C1 := inc_in H1.out.a H1.out.ok i hi h5 h0
  have hxm := H1.out.ok.now _ (List.mem_of_getElem? (getN_get hi))
  have OK := Lib.hid H1.out.ok
  obtain ⟨x, hx⟩ : ∃ x, x = getN A.now i := ⟨_, rfl⟩
  rw [← hx] at C1 h0 hxm h5
  have HX := Lib.hid hx
  clear hx
  have e1 : ((x : Int) == 65535) = false := by simp; omega
  have e2 : ((x : Int) == 0) = false := by simp; omega
  unfold pt at C1
  go_wp2_with fail
  refine C1.mono ?_
  rintro e w1 ⟨rfl, hA, hl⟩
  have HA := Lib.hid (And.intro hA hl)
  obtain ⟨g1, g2, c1, c2, hG, hrr⟩ := (H1.out.one hA hl).1
  have HR := Lib.hid (And.intro hG hrr)
  have k0 := hrr.k0
  have f1 := hrr.r1.frozen i
  have d1 := (hl.cell (p := ⟨w.heap.size, 1, none⟩) hwl HLT.out).trans c1'
  have q1 := hrr.r1.cell (getN_get hi)
  rw [← HX.out] at q1
  have HNE := Lib.hid (show g1 ≠ w.heap.size from fun e => by have := H1.out.r.lt g1 (by rw [hG]; simp); have h3 := HLTG.out (by rw [hG]; simp [e]); exact h3)
  clear C1 hA hl hG hrr
  have hwl1 : w.heap.size < w1.heap.size := Nat.lt_of_lt_of_le hwl HA.out.2.1.size
  go_wp2_with fail
  go_quiet (fail)
  have hbq0 := below_drewN (Below.refl w1.heap.size w1) nq
  have HRU1 := Lib.hid (HR.out.2.below hbq0)
  have HBU1 := Lib.hid (hbq0)
  have dU1 := (hbq0.cell (p := ⟨w.heap.size, 1, none⟩) hwl1).trans d1
  have hwlU1 : w.heap.size < (w1.drewN nq).heap.size := Nat.lt_of_lt_of_le hwl1 hbq0.size
  generalize w1.drewN nq = U1 at hbq0 HRU1 HBU1 dU1 hwlU1 ⊢
  have kU1 := HRU1.out.k0
  have fU1 := HRU1.out.r1.frozen i
  have qU1 := HRU1.out.r1.cell (getN_get hi)
  rw [← HX.out] at qU1
  clear k0 d1 q1 f1 hbq0
  go_wp2_with fail
  go_quiet (fail)
  have hbq1 := below_drewN (Below.refl U1.heap.size U1) nq
  have HRU2 := Lib.hid (HRU1.out.below hbq1)
  have HBU2 := Lib.hid (hbq1)
  have dU2 := (hbq1.cell (p := ⟨w.heap.size, 1, none⟩) hwlU1).trans dU1
  have hwlU2 : w.heap.size < (U1.drewN nq).heap.size := Nat.lt_of_lt_of_le hwlU1 hbq1.size
  generalize U1.drewN nq = U2 at hbq1 HRU2 HBU2 dU2 hwlU2 ⊢
  have kU2 := HRU2.out.k0
  have fU2 := HRU2.out.r1.frozen i
  have qU2 := HRU2.out.r1.cell (getN_get hi)
  rw [← HX.out] at qU2
  clear kU1 dU1 qU1 fU1 hbq1
  go_wp2_with fail
  go_region
  have R3 := (HRU2.out.below (Below.refl _ _).drew).setNow i (x + 1)
  have e3 : (((x + 1 : Nat) : Int)) = (x : Int) + 1 := by omega
  rw [e3] at R3
  have HP := Lib.hid (H1.out.two (G' := [r, g1, g2]) HA.out.1 HA.out.2 ⟨g1, g2, c1, c2, rfl, by simpa using R3⟩ (by
    rw [HR.out.1]
    exact ⟨((((Mods.refl _ w1).thenBelow HBU1.out).thenBelow HBU2.out).drew).setCell (by simp) _, fun k hk => .inl hk⟩) (by simpa using set_ok OK.out hi (by omega)))
  clear R3 e3
  go_wp2_with fail
  go_ret
  exact ⟨rfl, HPRE.out _ (HP.out.pre HB.out)⟩

set_option maxRecDepth 100000 in
set_option maxHeartbeats 3200000 in
theorem do_dec_in {w : World} {p r : Nat} {A : M} {F G : List Nat} (h : Two w p r A F G) (i : Nat) (hi : i < A.now.length) (h0 : getN A.now i ≠ 0) :
    Calls Try.prog 36 #[pt p, pt r, .agg #[.int .i64 3, .int .i64 (i : Int)]] w fun e w' => e = .returned (.bool true) ∧ TwoP p r F G w w' := by
  have hbb := boxed_below w 3 (i : Int)
  have h0 := h.below hbb
  have bk := boxed_k w 3 (i : Int)
  have hr0 := h0.r
  have hlen := h.ok.max
  have HLT := Lib.hid (fun hk : w.heap.size ∈ F => Nat.lt_irrefl _ (h.a.lt _ hk))
  have HLTG := Lib.hid (fun hk : w.heap.size ∈ G => Nat.lt_irrefl _ (h.r.lt _ hk))
  obtain ⟨g1, g2, c1, c2, hG, hrr⟩ := hr0
  have k0 := hrr.k0
  obtain ⟨b0, b1⟩ := bk
  have HPRE := Lib.hid (fun w' (h : TwoP p r F G (boxed w 3 (i : Int)) w') => h.pre hbb)
  have H0 := Lib.hid h0
  unfold boxed at *
  unfold pt
  clear h hrr hG hbb h0
  have hlo : (0 : Int) ≤ (i : Int) := by omega
  go_enter Try.func36, Try.ntmps36
  go_wp2_with fail
  go_quiet (fail)
  have hbd := below_drewN (Below.refl (w.alloc (.cells #[.int .i64 3, .int .i64 (i : Int)] 58)).heap.size (w.alloc (.cells #[.int .i64 3, .int .i64 (i : Int)] 58))) nq
  have H1 := Lib.hid (H0.out.below hbd)
  have HB := Lib.hid hbd
  have c0 := (hbd.cell (p := ⟨w.heap.size, 0, none⟩) (by simp)).trans b0
  have c1' := (hbd.cell (p := ⟨w.heap.size, 1, none⟩) (by simp)).trans b1
  have hwl : w.heap.size < ((w.alloc (.cells #[.int .i64 3, .int .i64 (i : Int)] 58)).drewN nq).heap.size := by simp
  generalize hW : (w.alloc (.cells #[.int .i64 3, .int .i64 (i : Int)] 58)).drewN nq = W at hbd H1 HB c0 c1' hwl ⊢
  clear hW hbd k0 b0 b1 H0
  have C1 := dec_in H1.out.a H1.out.ok i hi h0
  have hxm := H1.out.ok.now _ (List.mem_of_getElem? (getN_get hi))
  have OK := Lib.hid H1.out.ok
  obtain ⟨x, hx⟩ : ∃ x, x = getN A.now i := ⟨_, rfl⟩
  rw [← hx] at C1 h0 hxm 
  have HX := Lib.hid hx
  clear hx
  obtain ⟨y, rfl⟩ : ∃ y, x = y + 1 := ⟨x - 1, by omega⟩
  simp only [Nat.add_sub_cancel] at C1
  have e2 : (((y + 1 : Nat) : Int) == 0) = false := by simp; omega
  unfold pt at C1
  go_wp2_with fail
  refine C1.mono ?_
  rintro e w1 ⟨rfl, hA, hl⟩
  have HA := Lib.hid (And.intro hA hl)
  obtain ⟨g1, g2, c1, c2, hG, hrr⟩ := (H1.out.one hA hl).1
  have HR := Lib.hid (And.intro hG hrr)
  have k0 := hrr.k0
  have f1 := hrr.r1.frozen i
  have d1 := (hl.cell (p := ⟨w.heap.size, 1, none⟩) hwl HLT.out).trans c1'
  have q1 := hrr.r1.cell (getN_get hi)
  rw [← HX.out] at q1
  have HNE := Lib.hid (show g1 ≠ w.heap.size from fun e => by have := H1.out.r.lt g1 (by rw [hG]; simp); have h3 := HLTG.out (by rw [hG]; simp [e]); exact h3)
  clear C1 hA hl hG hrr
  have hwl1 : w.heap.size < w1.heap.size := Nat.lt_of_lt_of_le hwl HA.out.2.1.size
  go_wp2_with fail
  go_quiet (fail)
  have hbq0 := below_drewN (Below.refl w1.heap.size w1) nq
  have HRU1 := Lib.hid (HR.out.2.below hbq0)
  have HBU1 := Lib.hid (hbq0)
  have dU1 := (hbq0.cell (p := ⟨w.heap.size, 1, none⟩) hwl1).trans d1
  have hwlU1 : w.heap.size < (w1.drewN nq).heap.size := Nat.lt_of_lt_of_le hwl1 hbq0.size
  generalize w1.drewN nq = U1 at hbq0 HRU1 HBU1 dU1 hwlU1 ⊢
  have kU1 := HRU1.out.k0
  have fU1 := HRU1.out.r1.frozen i
  have qU1 := HRU1.out.r1.cell (getN_get hi)
  rw [← HX.out] at qU1
  clear k0 d1 q1 f1 hbq0
  go_wp2_with fail
  go_region
  have R3 := (HRU1.out.below (Below.refl _ _).drew).setNow i y
  have HP := Lib.hid (H1.out.two (G' := [r, g1, g2]) HA.out.1 HA.out.2 ⟨g1, g2, c1, c2, rfl, by simpa using R3⟩ (by
    rw [HR.out.1]
    exact ⟨(((Mods.refl _ w1).thenBelow HBU1.out).drew).setCell (by simp) _, fun k hk => .inl hk⟩) (by simpa using set_ok OK.out hi (by omega)))
  have dq : (U1.setCell ⟨g1, i, none⟩ (.int .i64 (y : Int))).drew.cell? ⟨w.heap.size, 1, none⟩ = _ := (World.cell?_setCell_far _ _ _ _ HNE.out).trans dU1
  replace R3 : RAt (U1.setCell ⟨g1, i, none⟩ (.int .i64 (y : Int))).drew r g1 g2 A.now.length c1 A.was.length c2 { A with now := A.now.set i y } := R3
  replace HP : Hid (TwoP p r F G W (U1.setCell ⟨g1, i, none⟩ (.int .i64 (y : Int))).drew) := HP
  generalize (U1.setCell ⟨g1, i, none⟩ (.int .i64 (y : Int))).drew = U3 at R3 HP dq ⊢
  have kq := R3.k0
  have qq := R3.r1.cell (i := i) (k := y) (by simp [hi])
  clear R3 kU1 dU1 qU1 fU1
  go_wp2_with fail
  go_quiet (fail)
  go_wp2_with fail
  go_ret
  exact ⟨rfl, HPRE.out _ ((HP.out.post (below_drewN (Below.refl _ _) _)).pre HB.out)⟩
end Go.Proofs.Ytgokaoajpidhnaa
