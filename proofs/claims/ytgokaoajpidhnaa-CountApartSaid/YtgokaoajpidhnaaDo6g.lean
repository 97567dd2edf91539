/- The law's acts, walked: Grow; a kind that does nothing. (Printed by do6.py.) -/
import Derived.Test.YtgokaoajpidhnaaDo6
import Derived.Test.YtgokaoajpidhnaaCountGrow
namespace Go.Proofs.Ytgokaoajpidhnaa
open Go.RowKit
set_option linter.unusedVariables false

set_option maxRecDepth 100000 in
set_option maxHeartbeats 3200000 in
theorem do_grow_neg {w : World} {p r : Nat} {A : M} {F G : List Nat} (h : Two w p r A F G) (n : Int) (hn : n < 0) :
    Calls Try.prog 36 #[pt p, pt r, .agg #[.int .i64 7, .int .i64 n]] w fun e w' => e = .returned (.bool true) ∧ TwoP p r F G w w' := by
  have hbb := boxed_below w 7 n
  have h0 := h.below hbb
  have bk := boxed_k w 7 n
  have hr0 := h0.r
  have hlen := h.ok.max
  have HLT := Lib.hid (fun hk : w.heap.size ∈ F => Nat.lt_irrefl _ (h.a.lt _ hk))
  have HLTG := Lib.hid (fun hk : w.heap.size ∈ G => Nat.lt_irrefl _ (h.r.lt _ hk))
  obtain ⟨g1, g2, c1, c2, hG, hrr⟩ := hr0
  have k0 := hrr.k0
  obtain ⟨b0, b1⟩ := bk
  have HPRE := Lib.hid (fun w' (h : TwoP p r F G (boxed w 7 n) w') => h.pre hbb)
  have H0 := Lib.hid h0
  unfold boxed at *
  unfold pt
  clear h hrr hG hbb h0
  have hd : decide (0 ≤ n) = false := by simp; omega
  have hx1 : n < (A.now.length : Int) := by omega
  go_enter Try.func36, Try.ntmps36
  go_wp2_with fail
  go_quiet (fail)
  have hbd := below_drewN (Below.refl (w.alloc (.cells #[.int .i64 7, .int .i64 n] 58)).heap.size (w.alloc (.cells #[.int .i64 7, .int .i64 n] 58))) nq
  have H1 := Lib.hid (H0.out.below hbd)
  have HB := Lib.hid hbd
  have c0 := (hbd.cell (p := ⟨w.heap.size, 0, none⟩) (by simp)).trans b0
  have c1' := (hbd.cell (p := ⟨w.heap.size, 1, none⟩) (by simp)).trans b1
  have hwl : w.heap.size < ((w.alloc (.cells #[.int .i64 7, .int .i64 n] 58)).drewN nq).heap.size := by simp
  generalize hW : (w.alloc (.cells #[.int .i64 7, .int .i64 n] 58)).drewN nq = W at hbd H1 HB c0 c1' hwl ⊢
  clear hW hbd k0 b0 b1 H0
  have C1 := grow_out H1.out.a H1.out.ok n (.inl (by omega))
  unfold pt at C1
  go_wp2_with fail
  refine C1.mono ?_
  rintro e w1 ⟨rfl, rfl⟩
  obtain ⟨g1, g2, c1, c2, hG, hrr⟩ := H1.out.r
  have k0 := hrr.k0
  clear C1 hrr hG
  go_wp2_with fail
  go_quiet (fail)
  go_wp2_with fail
  go_ret
  exact ⟨rfl, HPRE.out _ ((TwoP.same H1.out (by repeat (first | exact Below.refl _ _ | refine below_drewN ?_ _))).pre HB.out)⟩

set_option maxRecDepth 100000 in
set_option maxHeartbeats 3200000 in
theorem do_grow_low {w : World} {p r : Nat} {A : M} {F G : List Nat} (h : Two w p r A F G) (n : Int) (hn : 0 ≤ n) (hm : n < A.now.length) :
    Calls Try.prog 36 #[pt p, pt r, .agg #[.int .i64 7, .int .i64 n]] w fun e w' => e = .returned (.bool true) ∧ TwoP p r F G w w' := by
  have hbb := boxed_below w 7 n
  have h0 := h.below hbb
  have bk := boxed_k w 7 n
  have hr0 := h0.r
  have hlen := h.ok.max
  have HLT := Lib.hid (fun hk : w.heap.size ∈ F => Nat.lt_irrefl _ (h.a.lt _ hk))
  have HLTG := Lib.hid (fun hk : w.heap.size ∈ G => Nat.lt_irrefl _ (h.r.lt _ hk))
  obtain ⟨g1, g2, c1, c2, hG, hrr⟩ := hr0
  have k0 := hrr.k0
  obtain ⟨b0, b1⟩ := bk
  have HPRE := Lib.hid (fun w' (h : TwoP p r F G (boxed w 7 n) w') => h.pre hbb)
  have H0 := Lib.hid h0
  unfold boxed at *
  unfold pt
  clear h hrr hG hbb h0
  have hx1 : n < (A.now.length : Int) := by omega
  go_enter Try.func36, Try.ntmps36
  go_wp2_with fail
  go_quiet (fail)
  have hbd := below_drewN (Below.refl (w.alloc (.cells #[.int .i64 7, .int .i64 n] 58)).heap.size (w.alloc (.cells #[.int .i64 7, .int .i64 n] 58))) nq
  have H1 := Lib.hid (H0.out.below hbd)
  have HB := Lib.hid hbd
  have c0 := (hbd.cell (p := ⟨w.heap.size, 0, none⟩) (by simp)).trans b0
  have c1' := (hbd.cell (p := ⟨w.heap.size, 1, none⟩) (by simp)).trans b1
  have hwl : w.heap.size < ((w.alloc (.cells #[.int .i64 7, .int .i64 n] 58)).drewN nq).heap.size := by simp
  generalize hW : (w.alloc (.cells #[.int .i64 7, .int .i64 n] 58)).drewN nq = W at hbd H1 HB c0 c1' hwl ⊢
  clear hW hbd k0 b0 b1 H0
  have C1 := grow_out H1.out.a H1.out.ok n (.inl (by omega))
  unfold pt at C1
  go_wp2_with fail
  refine C1.mono ?_
  rintro e w1 ⟨rfl, rfl⟩
  obtain ⟨g1, g2, c1, c2, hG, hrr⟩ := H1.out.r
  have k0 := hrr.k0
  clear C1 hrr hG
  go_wp2_with fail
  go_quiet (fail)
  go_wp2_with fail
  go_ret
  exact ⟨rfl, HPRE.out _ ((TwoP.same H1.out (by repeat (first | exact Below.refl _ _ | refine below_drewN ?_ _))).pre HB.out)⟩

set_option maxRecDepth 100000 in
set_option maxHeartbeats 3200000 in
theorem do_grow_high {w : World} {p r : Nat} {A : M} {F G : List Nat} (h : Two w p r A F G) (n : Int) (hn : 1000 < n) :
    Calls Try.prog 36 #[pt p, pt r, .agg #[.int .i64 7, .int .i64 n]] w fun e w' => e = .returned (.bool true) ∧ TwoP p r F G w w' := by
  have hbb := boxed_below w 7 n
  have h0 := h.below hbb
  have bk := boxed_k w 7 n
  have hr0 := h0.r
  have hlen := h.ok.max
  have HLT := Lib.hid (fun hk : w.heap.size ∈ F => Nat.lt_irrefl _ (h.a.lt _ hk))
  have HLTG := Lib.hid (fun hk : w.heap.size ∈ G => Nat.lt_irrefl _ (h.r.lt _ hk))
  obtain ⟨g1, g2, c1, c2, hG, hrr⟩ := hr0
  have k0 := hrr.k0
  obtain ⟨b0, b1⟩ := bk
  have HPRE := Lib.hid (fun w' (h : TwoP p r F G (boxed w 7 n) w') => h.pre hbb)
  have H0 := Lib.hid h0
  unfold boxed at *
  unfold pt
  clear h hrr hG hbb h0
  have hn0 : 0 ≤ n := by omega
  have hd2 : decide (n < (A.now.length : Int)) = false := by simp; omega
  go_enter Try.func36, Try.ntmps36
  go_wp2_with fail
  go_quiet (fail)
  have hbd := below_drewN (Below.refl (w.alloc (.cells #[.int .i64 7, .int .i64 n] 58)).heap.size (w.alloc (.cells #[.int .i64 7, .int .i64 n] 58))) nq
  have H1 := Lib.hid (H0.out.below hbd)
  have HB := Lib.hid hbd
  have c0 := (hbd.cell (p := ⟨w.heap.size, 0, none⟩) (by simp)).trans b0
  have c1' := (hbd.cell (p := ⟨w.heap.size, 1, none⟩) (by simp)).trans b1
  have hwl : w.heap.size < ((w.alloc (.cells #[.int .i64 7, .int .i64 n] 58)).drewN nq).heap.size := by simp
  generalize hW : (w.alloc (.cells #[.int .i64 7, .int .i64 n] 58)).drewN nq = W at hbd H1 HB c0 c1' hwl ⊢
  clear hW hbd k0 b0 b1 H0
  have C1 := grow_out H1.out.a H1.out.ok n (.inr (by omega))
  unfold pt at C1
  go_wp2_with fail
  refine C1.mono ?_
  rintro e w1 ⟨rfl, rfl⟩
  obtain ⟨g1, g2, c1, c2, hG, hrr⟩ := H1.out.r
  have k0 := hrr.k0
  clear C1 hrr hG
  go_wp2_with fail
  go_quiet (fail)
  go_wp2_with fail
  go_ret
  exact ⟨rfl, HPRE.out _ ((TwoP.same H1.out (by repeat (first | exact Below.refl _ _ | refine below_drewN ?_ _))).pre HB.out)⟩

set_option maxRecDepth 100000 in
set_option maxHeartbeats 3200000 in
theorem do_else_pos {w : World} {p r : Nat} {A : M} {F G : List Nat} (h : Two w p r A F G) (k n : Int) (hk : k < 1 ∨ 7 < k) (hn : 0 ≤ n) :
    Calls Try.prog 36 #[pt p, pt r, .agg #[.int .i64 k, .int .i64 n]] w fun e w' => e = .returned (.bool true) ∧ TwoP p r F G w w' := by
  have hbb := boxed_below w k n
  have h0 := h.below hbb
  have bk := boxed_k w k n
  have hr0 := h0.r
  have hlen := h.ok.max
  have HLT := Lib.hid (fun hk : w.heap.size ∈ F => Nat.lt_irrefl _ (h.a.lt _ hk))
  have HLTG := Lib.hid (fun hk : w.heap.size ∈ G => Nat.lt_irrefl _ (h.r.lt _ hk))
  obtain ⟨g1, g2, c1, c2, hG, hrr⟩ := hr0
  have k0 := hrr.k0
  obtain ⟨b0, b1⟩ := bk
  have HPRE := Lib.hid (fun w' (h : TwoP p r F G (boxed w k n) w') => h.pre hbb)
  have H0 := Lib.hid h0
  unfold boxed at *
  unfold pt
  clear h hrr hG hbb h0
  have hk1 : (k == 1) = false := by simp; omega
  have hk2 : (k == 2) = false := by simp; omega
  have hk3 : (k == 3) = false := by simp; omega
  have hk4 : (k == 4) = false := by simp; omega
  have hk5 : (k == 5) = false := by simp; omega
  have hk6 : (k == 6) = false := by simp; omega
  have hk7 : (k == 7) = false := by simp; omega
  go_enter Try.func36, Try.ntmps36
  go_wp2_with fail
  go_quiet (fail)
  have hbd := below_drewN (Below.refl (w.alloc (.cells #[.int .i64 k, .int .i64 n] 58)).heap.size (w.alloc (.cells #[.int .i64 k, .int .i64 n] 58))) nq
  have H1 := Lib.hid (H0.out.below hbd)
  have HB := Lib.hid hbd
  have c0 := (hbd.cell (p := ⟨w.heap.size, 0, none⟩) (by simp)).trans b0
  have c1' := (hbd.cell (p := ⟨w.heap.size, 1, none⟩) (by simp)).trans b1
  have hwl : w.heap.size < ((w.alloc (.cells #[.int .i64 k, .int .i64 n] 58)).drewN nq).heap.size := by simp
  generalize hW : (w.alloc (.cells #[.int .i64 k, .int .i64 n] 58)).drewN nq = W at hbd H1 HB c0 c1' hwl ⊢
  clear hW hbd k0 b0 b1 H0
  go_wp2_with fail
  go_ret
  exact ⟨rfl, HPRE.out _ ((TwoP.same H1.out (Below.refl _ _)).pre HB.out)⟩

set_option maxRecDepth 100000 in
set_option maxHeartbeats 3200000 in
theorem do_else_neg {w : World} {p r : Nat} {A : M} {F G : List Nat} (h : Two w p r A F G) (k n : Int) (hk : k < 1 ∨ 7 < k) (hn : n < 0) :
    Calls Try.prog 36 #[pt p, pt r, .agg #[.int .i64 k, .int .i64 n]] w fun e w' => e = .returned (.bool true) ∧ TwoP p r F G w w' := by
  have hbb := boxed_below w k n
  have h0 := h.below hbb
  have bk := boxed_k w k n
  have hr0 := h0.r
  have hlen := h.ok.max
  have HLT := Lib.hid (fun hk : w.heap.size ∈ F => Nat.lt_irrefl _ (h.a.lt _ hk))
  have HLTG := Lib.hid (fun hk : w.heap.size ∈ G => Nat.lt_irrefl _ (h.r.lt _ hk))
  obtain ⟨g1, g2, c1, c2, hG, hrr⟩ := hr0
  have k0 := hrr.k0
  obtain ⟨b0, b1⟩ := bk
  have HPRE := Lib.hid (fun w' (h : TwoP p r F G (boxed w k n) w') => h.pre hbb)
  have H0 := Lib.hid h0
  unfold boxed at *
  unfold pt
  clear h hrr hG hbb h0
  have hk1 : (k == 1) = false := by simp; omega
  have hk2 : (k == 2) = false := by simp; omega
  have hk3 : (k == 3) = false := by simp; omega
  have hk4 : (k == 4) = false := by simp; omega
  have hk5 : (k == 5) = false := by simp; omega
  have hk6 : (k == 6) = false := by simp; omega
  have hk7 : (k == 7) = false := by simp; omega
  have hd : decide (0 ≤ n) = false := by simp; omega
  go_enter Try.func36, Try.ntmps36
  go_wp2_with fail
  go_quiet (fail)
  have hbd := below_drewN (Below.refl (w.alloc (.cells #[.int .i64 k, .int .i64 n] 58)).heap.size (w.alloc (.cells #[.int .i64 k, .int .i64 n] 58))) nq
  have H1 := Lib.hid (H0.out.below hbd)
  have HB := Lib.hid hbd
  have c0 := (hbd.cell (p := ⟨w.heap.size, 0, none⟩) (by simp)).trans b0
  have c1' := (hbd.cell (p := ⟨w.heap.size, 1, none⟩) (by simp)).trans b1
  have hwl : w.heap.size < ((w.alloc (.cells #[.int .i64 k, .int .i64 n] 58)).drewN nq).heap.size := by simp
  generalize hW : (w.alloc (.cells #[.int .i64 k, .int .i64 n] 58)).drewN nq = W at hbd H1 HB c0 c1' hwl ⊢
  clear hW hbd k0 b0 b1 H0
  go_wp2_with fail
  go_ret
  exact ⟨rfl, HPRE.out _ ((TwoP.same H1.out (Below.refl _ _)).pre HB.out)⟩
end Go.Proofs.Ytgokaoajpidhnaa
