/- The law's acts, walked, one by one: Alloc, Inc, Dec, Set. (Printed by do6.py.) -/
import Derived.Test.YtgokaoajpidhnaaDo6
namespace Go.Proofs.Ytgokaoajpidhnaa
open Go.RowKit
set_option linter.unusedVariables false

set_option maxRecDepth 100000 in
set_option maxHeartbeats 3200000 in
theorem do_alloc {w : World} {p r : Nat} {A : M} {F G : List Nat} (h : Two w p r A F G) (n : Int) :
    Calls Try.prog 36 #[pt p, pt r, .agg #[.int .i64 1, .int .i64 n]] w fun e w' => e = .returned (.bool true) ∧ TwoP p r F G w w' := by
  have hbb := boxed_below w 1 n
  have h0 := h.below hbb
  have bk := boxed_k w 1 n
  have hr0 := h0.r
  have hlen := h.ok.max
  have HLT := Lib.hid (fun hk : w.heap.size ∈ F => Nat.lt_irrefl _ (h.a.lt _ hk))
  have HLTG := Lib.hid (fun hk : w.heap.size ∈ G => Nat.lt_irrefl _ (h.r.lt _ hk))
  obtain ⟨g1, g2, c1, c2, hG, hrr⟩ := hr0
  have k0 := hrr.k0
  obtain ⟨b0, b1⟩ := bk
  have HPRE := Lib.hid (fun w' (h : TwoP p r F G (boxed w 1 n) w') => h.pre hbb)
  have H0 := Lib.hid h0
  unfold boxed at *
  unfold pt
  clear h hrr hG hbb h0
  by_cases h1 : 0 ≤ n
  · go_enter Try.func36, Try.ntmps36
    go_wp2_with fail
    go_quiet (fail)
    have hbd := below_drewN (Below.refl (w.alloc (.cells #[.int .i64 1, .int .i64 n] 58)).heap.size (w.alloc (.cells #[.int .i64 1, .int .i64 n] 58))) nq
    have H1 := Lib.hid (H0.out.below hbd)
    have HB := Lib.hid hbd
    have c0 := (hbd.cell (p := ⟨w.heap.size, 0, none⟩) (by simp)).trans b0
    have c1' := (hbd.cell (p := ⟨w.heap.size, 1, none⟩) (by simp)).trans b1
    have hwl : w.heap.size < ((w.alloc (.cells #[.int .i64 1, .int .i64 n] 58)).drewN nq).heap.size := by simp
    generalize hW : (w.alloc (.cells #[.int .i64 1, .int .i64 n] 58)).drewN nq = W at hbd H1 HB c0 c1' hwl ⊢
    clear hW hbd k0 b0 b1 H0
    cases hf : find A 0 with
    | none =>
      have C1 := alloc_miss H1.out.a H1.out.ok hf
      have HF := Lib.hid hf
      unfold pt at C1
      clear hf
      go_wp2_with fail
      refine C1.mono ?_
      rintro e w1 ⟨rfl, hb1⟩
      have C2 := ralloc_any (RA.below H1.out.r hb1) H1.out.ok
      unfold pt at C2
      have H2 := Lib.hid (hb1)
      clear hb1 C1
      go_wp2_with fail
      refine C2.mono ?_
      intro e w2 hp
      unfold RAllocP at hp
      rw [HF.out] at hp
      obtain ⟨rfl, rfl⟩ := hp
      clear C2
      go_wp2_with fail
      go_ret
      exact ⟨rfl, HPRE.out _ ((TwoP.same H1.out H2.out).pre HB.out)⟩
    | some i =>
      have C1 := alloc_hit H1.out.a H1.out.ok hf
      have HF := Lib.hid hf
      have hi := findF_lt H1.out.ok.pos _ _ _ hf
      unfold pt at C1
      clear hf
      go_wp2_with fail
      refine C1.mono ?_
      rintro e w1 ⟨rfl, hA, hl⟩
      have HA := Lib.hid (And.intro hA hl)
      have C2 := ralloc_any (H1.out.one hA hl).1 H1.out.ok
      unfold pt at C2
      clear hA hl C1
      go_wp2_with fail
      refine C2.mono ?_
      intro e w2 hp
      unfold RAllocP at hp
      rw [HF.out] at hp
      obtain ⟨rfl, hR, hm⟩ := hp
      have HP := Lib.hid (H1.out.two HA.out.1 HA.out.2 hR hm (allocM_ok H1.out.ok hi))
      clear C2 hR hm
      go_wp2_with fail
      go_ret
      exact ⟨rfl, HPRE.out _ (HP.out.pre HB.out)⟩
  · have hd : decide (0 ≤ n) = false := by simpa using h1
    go_enter Try.func36, Try.ntmps36
    go_wp2_with fail
    go_quiet (fail)
    have hbd := below_drewN (Below.refl (w.alloc (.cells #[.int .i64 1, .int .i64 n] 58)).heap.size (w.alloc (.cells #[.int .i64 1, .int .i64 n] 58))) nq
    have H1 := Lib.hid (H0.out.below hbd)
    have HB := Lib.hid hbd
    have c0 := (hbd.cell (p := ⟨w.heap.size, 0, none⟩) (by simp)).trans b0
    have c1' := (hbd.cell (p := ⟨w.heap.size, 1, none⟩) (by simp)).trans b1
    have hwl : w.heap.size < ((w.alloc (.cells #[.int .i64 1, .int .i64 n] 58)).drewN nq).heap.size := by simp
    generalize hW : (w.alloc (.cells #[.int .i64 1, .int .i64 n] 58)).drewN nq = W at hbd H1 HB c0 c1' hwl ⊢
    clear hW hbd k0 b0 b1 H0
    cases hf : find A 0 with
    | none =>
      have C1 := alloc_miss H1.out.a H1.out.ok hf
      have HF := Lib.hid hf
      unfold pt at C1
      clear hf
      go_wp2_with fail
      refine C1.mono ?_
      rintro e w1 ⟨rfl, hb1⟩
      have C2 := ralloc_any (RA.below H1.out.r hb1) H1.out.ok
      unfold pt at C2
      have H2 := Lib.hid (hb1)
      clear hb1 C1
      go_wp2_with fail
      refine C2.mono ?_
      intro e w2 hp
      unfold RAllocP at hp
      rw [HF.out] at hp
      obtain ⟨rfl, rfl⟩ := hp
      clear C2
      go_wp2_with fail
      go_ret
      exact ⟨rfl, HPRE.out _ ((TwoP.same H1.out H2.out).pre HB.out)⟩
    | some i =>
      have C1 := alloc_hit H1.out.a H1.out.ok hf
      have HF := Lib.hid hf
      have hi := findF_lt H1.out.ok.pos _ _ _ hf
      unfold pt at C1
      clear hf
      go_wp2_with fail
      refine C1.mono ?_
      rintro e w1 ⟨rfl, hA, hl⟩
      have HA := Lib.hid (And.intro hA hl)
      have C2 := ralloc_any (H1.out.one hA hl).1 H1.out.ok
      unfold pt at C2
      clear hA hl C1
      go_wp2_with fail
      refine C2.mono ?_
      intro e w2 hp
      unfold RAllocP at hp
      rw [HF.out] at hp
      obtain ⟨rfl, hR, hm⟩ := hp
      have HP := Lib.hid (H1.out.two HA.out.1 HA.out.2 hR hm (allocM_ok H1.out.ok hi))
      clear C2 hR hm
      go_wp2_with fail
      go_ret
      exact ⟨rfl, HPRE.out _ (HP.out.pre HB.out)⟩

set_option maxRecDepth 100000 in
set_option maxHeartbeats 3200000 in
theorem do_inc_low {w : World} {p r : Nat} {A : M} {F G : List Nat} (h : Two w p r A F G) (n : Int) (hn : n < 0) :
    Calls Try.prog 36 #[pt p, pt r, .agg #[.int .i64 2, .int .i64 n]] w fun e w' => e = .returned (.bool true) ∧ TwoP p r F G w w' := by
  have hbb := boxed_below w 2 n
  have h0 := h.below hbb
  have bk := boxed_k w 2 n
  have hr0 := h0.r
  have hlen := h.ok.max
  have HLT := Lib.hid (fun hk : w.heap.size ∈ F => Nat.lt_irrefl _ (h.a.lt _ hk))
  have HLTG := Lib.hid (fun hk : w.heap.size ∈ G => Nat.lt_irrefl _ (h.r.lt _ hk))
  obtain ⟨g1, g2, c1, c2, hG, hrr⟩ := hr0
  have k0 := hrr.k0
  obtain ⟨b0, b1⟩ := bk
  have HPRE := Lib.hid (fun w' (h : TwoP p r F G (boxed w 2 n) w') => h.pre hbb)
  have H0 := Lib.hid h0
  unfold boxed at *
  unfold pt
  clear h hrr hG hbb h0
  have hd : decide (0 ≤ n) = false := by simp; omega
  go_enter Try.func36, Try.ntmps36
  go_wp2_with fail
  go_quiet (fail)
  have hbd := below_drewN (Below.refl (w.alloc (.cells #[.int .i64 2, .int .i64 n] 58)).heap.size (w.alloc (.cells #[.int .i64 2, .int .i64 n] 58))) nq
  have H1 := Lib.hid (H0.out.below hbd)
  have HB := Lib.hid hbd
  have c0 := (hbd.cell (p := ⟨w.heap.size, 0, none⟩) (by simp)).trans b0
  have c1' := (hbd.cell (p := ⟨w.heap.size, 1, none⟩) (by simp)).trans b1
  have hwl : w.heap.size < ((w.alloc (.cells #[.int .i64 2, .int .i64 n] 58)).drewN nq).heap.size := by simp
  generalize hW : (w.alloc (.cells #[.int .i64 2, .int .i64 n] 58)).drewN nq = W at hbd H1 HB c0 c1' hwl ⊢
  clear hW hbd k0 b0 b1 H0
  have C1 := inc_out H1.out.a H1.out.ok n (.inl hn)
  unfold pt at C1
  go_wp2_with fail
  refine C1.mono ?_
  rintro e w1 ⟨rfl, rfl⟩
  clear C1
  go_wp2_with fail
  go_ret
  exact ⟨rfl, HPRE.out _ ((TwoP.same H1.out (Below.refl _ _)).pre HB.out)⟩

set_option maxRecDepth 100000 in
set_option maxHeartbeats 3200000 in
theorem do_inc_high {w : World} {p r : Nat} {A : M} {F G : List Nat} (h : Two w p r A F G) (n : Int) (hn : (A.now.length : Int) ≤ n) :
    Calls Try.prog 36 #[pt p, pt r, .agg #[.int .i64 2, .int .i64 n]] w fun e w' => e = .returned (.bool true) ∧ TwoP p r F G w w' := by
  have hbb := boxed_below w 2 n
  have h0 := h.below hbb
  have bk := boxed_k w 2 n
  have hr0 := h0.r
  have hlen := h.ok.max
  have HLT := Lib.hid (fun hk : w.heap.size ∈ F => Nat.lt_irrefl _ (h.a.lt _ hk))
  have HLTG := Lib.hid (fun hk : w.heap.size ∈ G => Nat.lt_irrefl _ (h.r.lt _ hk))
  obtain ⟨g1, g2, c1, c2, hG, hrr⟩ := hr0
  have k0 := hrr.k0
  obtain ⟨b0, b1⟩ := bk
  have HPRE := Lib.hid (fun w' (h : TwoP p r F G (boxed w 2 n) w') => h.pre hbb)
  have H0 := Lib.hid h0
  unfold boxed at *
  unfold pt
  clear h hrr hG hbb h0
  have h1 : 0 ≤ n := by omega
  have hd2 : decide (n < (A.now.length : Int)) = false := by simp; omega
  go_enter Try.func36, Try.ntmps36
  go_wp2_with fail
  go_quiet (fail)
  have hbd := below_drewN (Below.refl (w.alloc (.cells #[.int .i64 2, .int .i64 n] 58)).heap.size (w.alloc (.cells #[.int .i64 2, .int .i64 n] 58))) nq
  have H1 := Lib.hid (H0.out.below hbd)
  have HB := Lib.hid hbd
  have c0 := (hbd.cell (p := ⟨w.heap.size, 0, none⟩) (by simp)).trans b0
  have c1' := (hbd.cell (p := ⟨w.heap.size, 1, none⟩) (by simp)).trans b1
  have hwl : w.heap.size < ((w.alloc (.cells #[.int .i64 2, .int .i64 n] 58)).drewN nq).heap.size := by simp
  generalize hW : (w.alloc (.cells #[.int .i64 2, .int .i64 n] 58)).drewN nq = W at hbd H1 HB c0 c1' hwl ⊢
  clear hW hbd k0 b0 b1 H0
  have C1 := inc_out H1.out.a H1.out.ok n (.inr hn)
  unfold pt at C1
  go_wp2_with fail
  refine C1.mono ?_
  rintro e w1 ⟨rfl, rfl⟩
  clear C1
  go_wp2_with fail
  go_ret
  exact ⟨rfl, HPRE.out _ ((TwoP.same H1.out (Below.refl _ _)).pre HB.out)⟩

set_option maxRecDepth 100000 in
set_option maxHeartbeats 3200000 in
theorem do_dec_low {w : World} {p r : Nat} {A : M} {F G : List Nat} (h : Two w p r A F G) (n : Int) (hn : n < 0) :
    Calls Try.prog 36 #[pt p, pt r, .agg #[.int .i64 3, .int .i64 n]] w fun e w' => e = .returned (.bool true) ∧ TwoP p r F G w w' := by
  have hbb := boxed_below w 3 n
  have h0 := h.below hbb
  have bk := boxed_k w 3 n
  have hr0 := h0.r
  have hlen := h.ok.max
  have HLT := Lib.hid (fun hk : w.heap.size ∈ F => Nat.lt_irrefl _ (h.a.lt _ hk))
  have HLTG := Lib.hid (fun hk : w.heap.size ∈ G => Nat.lt_irrefl _ (h.r.lt _ hk))
  obtain ⟨g1, g2, c1, c2, hG, hrr⟩ := hr0
  have k0 := hrr.k0
  obtain ⟨b0, b1⟩ := bk
  have HPRE := Lib.hid (fun w' (h : TwoP p r F G (boxed w 3 n) w') => h.pre hbb)
  have H0 := Lib.hid h0
  unfold boxed at *
  unfold pt
  clear h hrr hG hbb h0
  have hd : decide (0 ≤ n) = false := by simp; omega
  go_enter Try.func36, Try.ntmps36
  go_wp2_with fail
  go_quiet (fail)
  have hbd := below_drewN (Below.refl (w.alloc (.cells #[.int .i64 3, .int .i64 n] 58)).heap.size (w.alloc (.cells #[.int .i64 3, .int .i64 n] 58))) nq
  have H1 := Lib.hid (H0.out.below hbd)
  have HB := Lib.hid hbd
  have c0 := (hbd.cell (p := ⟨w.heap.size, 0, none⟩) (by simp)).trans b0
  have c1' := (hbd.cell (p := ⟨w.heap.size, 1, none⟩) (by simp)).trans b1
  have hwl : w.heap.size < ((w.alloc (.cells #[.int .i64 3, .int .i64 n] 58)).drewN nq).heap.size := by simp
  generalize hW : (w.alloc (.cells #[.int .i64 3, .int .i64 n] 58)).drewN nq = W at hbd H1 HB c0 c1' hwl ⊢
  clear hW hbd k0 b0 b1 H0
  have C1 := dec_out H1.out.a H1.out.ok n (.inl hn)
  unfold pt at C1
  go_wp2_with fail
  refine C1.mono ?_
  rintro e w1 ⟨rfl, rfl⟩
  clear C1
  go_wp2_with fail
  go_ret
  exact ⟨rfl, HPRE.out _ ((TwoP.same H1.out (Below.refl _ _)).pre HB.out)⟩

set_option maxRecDepth 100000 in
set_option maxHeartbeats 3200000 in
theorem do_dec_high {w : World} {p r : Nat} {A : M} {F G : List Nat} (h : Two w p r A F G) (n : Int) (hn : (A.now.length : Int) ≤ n) :
    Calls Try.prog 36 #[pt p, pt r, .agg #[.int .i64 3, .int .i64 n]] w fun e w' => e = .returned (.bool true) ∧ TwoP p r F G w w' := by
  have hbb := boxed_below w 3 n
  have h0 := h.below hbb
  have bk := boxed_k w 3 n
  have hr0 := h0.r
  have hlen := h.ok.max
  have HLT := Lib.hid (fun hk : w.heap.size ∈ F => Nat.lt_irrefl _ (h.a.lt _ hk))
  have HLTG := Lib.hid (fun hk : w.heap.size ∈ G => Nat.lt_irrefl _ (h.r.lt _ hk))
  obtain ⟨g1, g2, c1, c2, hG, hrr⟩ := hr0
  have k0 := hrr.k0
  obtain ⟨b0, b1⟩ := bk
  have HPRE := Lib.hid (fun w' (h : TwoP p r F G (boxed w 3 n) w') => h.pre hbb)
  have H0 := Lib.hid h0
  unfold boxed at *
  unfold pt
  clear h hrr hG hbb h0
  have h1 : 0 ≤ n := by omega
  have hd2 : decide (n < (A.now.length : Int)) = false := by simp; omega
  go_enter Try.func36, Try.ntmps36
  go_wp2_with fail
  go_quiet (fail)
  have hbd := below_drewN (Below.refl (w.alloc (.cells #[.int .i64 3, .int .i64 n] 58)).heap.size (w.alloc (.cells #[.int .i64 3, .int .i64 n] 58))) nq
  have H1 := Lib.hid (H0.out.below hbd)
  have HB := Lib.hid hbd
  have c0 := (hbd.cell (p := ⟨w.heap.size, 0, none⟩) (by simp)).trans b0
  have c1' := (hbd.cell (p := ⟨w.heap.size, 1, none⟩) (by simp)).trans b1
  have hwl : w.heap.size < ((w.alloc (.cells #[.int .i64 3, .int .i64 n] 58)).drewN nq).heap.size := by simp
  generalize hW : (w.alloc (.cells #[.int .i64 3, .int .i64 n] 58)).drewN nq = W at hbd H1 HB c0 c1' hwl ⊢
  clear hW hbd k0 b0 b1 H0
  have C1 := dec_out H1.out.a H1.out.ok n (.inr hn)
  unfold pt at C1
  go_wp2_with fail
  refine C1.mono ?_
  rintro e w1 ⟨rfl, rfl⟩
  clear C1
  go_wp2_with fail
  go_ret
  exact ⟨rfl, HPRE.out _ ((TwoP.same H1.out (Below.refl _ _)).pre HB.out)⟩

set_option maxRecDepth 100000 in
set_option maxHeartbeats 3200000 in
theorem do_set_low {w : World} {p r : Nat} {A : M} {F G : List Nat} (h : Two w p r A F G) (n : Int) (hn : n < 0) :
    Calls Try.prog 36 #[pt p, pt r, .agg #[.int .i64 4, .int .i64 n]] w fun e w' => e = .returned (.bool true) ∧ TwoP p r F G w w' := by
  have hbb := boxed_below w 4 n
  have h0 := h.below hbb
  have bk := boxed_k w 4 n
  have hr0 := h0.r
  have hlen := h.ok.max
  have HLT := Lib.hid (fun hk : w.heap.size ∈ F => Nat.lt_irrefl _ (h.a.lt _ hk))
  have HLTG := Lib.hid (fun hk : w.heap.size ∈ G => Nat.lt_irrefl _ (h.r.lt _ hk))
  obtain ⟨g1, g2, c1, c2, hG, hrr⟩ := hr0
  have k0 := hrr.k0
  obtain ⟨b0, b1⟩ := bk
  have HPRE := Lib.hid (fun w' (h : TwoP p r F G (boxed w 4 n) w') => h.pre hbb)
  have H0 := Lib.hid h0
  unfold boxed at *
  unfold pt
  clear h hrr hG hbb h0
  have hd : decide (0 ≤ n) = false := by simp; omega
  go_enter Try.func36, Try.ntmps36
  go_wp2_with fail
  go_quiet (fail)
  have hbd := below_drewN (Below.refl (w.alloc (.cells #[.int .i64 4, .int .i64 n] 58)).heap.size (w.alloc (.cells #[.int .i64 4, .int .i64 n] 58))) nq
  have H1 := Lib.hid (H0.out.below hbd)
  have HB := Lib.hid hbd
  have c0 := (hbd.cell (p := ⟨w.heap.size, 0, none⟩) (by simp)).trans b0
  have c1' := (hbd.cell (p := ⟨w.heap.size, 1, none⟩) (by simp)).trans b1
  have hwl : w.heap.size < ((w.alloc (.cells #[.int .i64 4, .int .i64 n] 58)).drewN nq).heap.size := by simp
  generalize hW : (w.alloc (.cells #[.int .i64 4, .int .i64 n] 58)).drewN nq = W at hbd H1 HB c0 c1' hwl ⊢
  clear hW hbd k0 b0 b1 H0
  have C1 := set_out H1.out.a H1.out.ok n (.inl hn)
  unfold pt at C1
  go_wp2_with fail
  refine C1.mono ?_
  rintro e w1 ⟨rfl, rfl⟩
  clear C1
  go_wp2_with fail
  go_ret
  exact ⟨rfl, HPRE.out _ ((TwoP.same H1.out (Below.refl _ _)).pre HB.out)⟩

set_option maxRecDepth 100000 in
set_option maxHeartbeats 3200000 in
theorem do_set_high {w : World} {p r : Nat} {A : M} {F G : List Nat} (h : Two w p r A F G) (n : Int) (hn : (A.now.length : Int) ≤ n) :
    Calls Try.prog 36 #[pt p, pt r, .agg #[.int .i64 4, .int .i64 n]] w fun e w' => e = .returned (.bool true) ∧ TwoP p r F G w w' := by
  have hbb := boxed_below w 4 n
  have h0 := h.below hbb
  have bk := boxed_k w 4 n
  have hr0 := h0.r
  have hlen := h.ok.max
  have HLT := Lib.hid (fun hk : w.heap.size ∈ F => Nat.lt_irrefl _ (h.a.lt _ hk))
  have HLTG := Lib.hid (fun hk : w.heap.size ∈ G => Nat.lt_irrefl _ (h.r.lt _ hk))
  obtain ⟨g1, g2, c1, c2, hG, hrr⟩ := hr0
  have k0 := hrr.k0
  obtain ⟨b0, b1⟩ := bk
  have HPRE := Lib.hid (fun w' (h : TwoP p r F G (boxed w 4 n) w') => h.pre hbb)
  have H0 := Lib.hid h0
  unfold boxed at *
  unfold pt
  clear h hrr hG hbb h0
  have h1 : 0 ≤ n := by omega
  have hd2 : decide (n < (A.now.length : Int)) = false := by simp; omega
  go_enter Try.func36, Try.ntmps36
  go_wp2_with fail
  go_quiet (fail)
  have hbd := below_drewN (Below.refl (w.alloc (.cells #[.int .i64 4, .int .i64 n] 58)).heap.size (w.alloc (.cells #[.int .i64 4, .int .i64 n] 58))) nq
  have H1 := Lib.hid (H0.out.below hbd)
  have HB := Lib.hid hbd
  have c0 := (hbd.cell (p := ⟨w.heap.size, 0, none⟩) (by simp)).trans b0
  have c1' := (hbd.cell (p := ⟨w.heap.size, 1, none⟩) (by simp)).trans b1
  have hwl : w.heap.size < ((w.alloc (.cells #[.int .i64 4, .int .i64 n] 58)).drewN nq).heap.size := by simp
  generalize hW : (w.alloc (.cells #[.int .i64 4, .int .i64 n] 58)).drewN nq = W at hbd H1 HB c0 c1' hwl ⊢
  clear hW hbd k0 b0 b1 H0
  have C1 := set_out H1.out.a H1.out.ok n (.inr hn)
  unfold pt at C1
  go_wp2_with fail
  refine C1.mono ?_
  rintro e w1 ⟨rfl, rfl⟩
  clear C1
  go_wp2_with fail
  go_ret
  exact ⟨rfl, HPRE.out _ ((TwoP.same H1.out (Below.refl _ _)).pre HB.out)⟩
end Go.Proofs.Ytgokaoajpidhnaa
