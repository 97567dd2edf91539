/- The law's 'same', walked: both areas look the same. -/
import Derived.Test.YtgokaoajpidhnaaDo6
namespace Go.Proofs.Ytgokaoajpidhnaa
open Go.RowKit
set_option linter.unusedVariables false

theorem quiet_add_same {P : Program} {f : FuncId} {args : Array Value} {w : World} {a n : Nat} {v : Value}
    (h : Calls P f args (w.drewN (a + n)) fun e w' => e = .returned v ∧ w' = w.drewN (a + n)) :
    Calls P f args (w.drewN (a + n)) fun e w'' => e = .returned v ∧ ∃ m, w'' = w.drewN (a + m) :=
  h.mono fun _ _ ⟨he, hm⟩ => ⟨he, n, hm⟩

set_option maxRecDepth 100000 in
set_option maxHeartbeats 6400000 in
theorem same_any {w : World} {p r : Nat} {A : M} {F G : List Nat} (h : Two w p r A F G) :
    Calls Try.prog 35 #[pt p, pt r] w fun e w' => e = .returned (.bool true) ∧ Below w.heap.size w w' := by
  have C1 := counts_any h.a h.ok
  have hm := h.ok.max
  have hp := h.ok.pos
  have HT := Lib.hid h
  have HL := Lib.hid h.ok.len
  unfold pt at *
  clear h
  go_enter Try.func35, Try.ntmps35
  go_wp2_with fail
  refine (C1).mono ?_
  rintro e w1 ⟨v, rfl, ho, hb⟩
  clear C1
  obtain ⟨g, cap, rfl, hg, hrow⟩ := own_row ho hp
  have HROW := Lib.hid hrow
  have H1 := Lib.hid (HT.out.below hb)
  have HB1 := Lib.hid hb
  clear ho hrow hb
  obtain ⟨a, b, ca, cb, hG, hrr⟩ := H1.out.r
  have k0 := hrr.k0
  have k2 := hrr.k2
  have L0 : ∀ W, Below w1.heap.size w1 W → Calls Try.prog 48 #[pt p] W _ := fun W hb => by
    obtain ⟨x, y, cx, cy, hF, hA⟩ := (H1.out.below hb).a
    exact len_any hA
  have L1 : ∀ W, Below w1.heap.size w1 W → Calls Try.prog 49 #[pt p] W _ := fun W hb => by
    obtain ⟨x, y, cx, cy, hF, hA⟩ := (H1.out.below hb).a
    exact cursor_any hA
  have L2 : ∀ W, Below w1.heap.size w1 W → Calls Try.prog 47 #[pt p] W _ := fun W hb => freeN_any (H1.out.below hb).a H1.out.ok
  have L3 : ∀ W, Below w1.heap.size w1 W → Calls Try.prog 70 #[pt r] W _ := fun W hb => room_any (H1.out.below hb).r H1.out.ok
  unfold pt at L0 L1 L2 L3
  have HL0 := Lib.hid L0
  have HL1 := Lib.hid L1
  have HL2 := Lib.hid L2
  have HL3 := Lib.hid L3
  clear L0 L1 L2 L3 hG hrr
  go_wp2_with fail
  go_quiet ((first
    | (go_at_call 48; exact Calls.quiet_of_same (HL0.out _ (below_drewN (Below.refl _ _) _)))
    | (go_at_call 49; exact Calls.quiet_of_same (HL1.out _ (below_drewN (Below.refl _ _) _)))
    | (go_at_call 47; exact Calls.quiet_of_same (HL2.out _ (below_drewN (Below.refl _ _) _)))
    | (go_at_call 70; exact Calls.quiet_of_same (HL3.out _ (below_drewN (Below.refl _ _) _)))))
  have hbq := below_drewN (Below.refl w1.heap.size w1) nq
  have HBQ := Lib.hid hbq
  generalize w1.drewN nq = W2 at hbq HBQ ⊢
  clear k0 k2 hbq
  have hn1 : ((A.now.length : Int)) ≤ 1000 := by omega
  go_wp2_with fail
  go_loopw [6] (fun i wr => ∃ k : Nat, k ≤ A.now.length ∧ i = .int .i64 k ∧ Below w1.heap.size w1 wr) (fun i _ => A.now.length - (intOf i).toNat)
  case atStart => exact ⟨0, by omega, rfl, HBQ.out⟩
  case round =>
    obtain ⟨k, hk, rfl, hbr⟩ := hrel
    have H2 := Lib.hid (H1.out.below hbr)
    have HBR := Lib.hid hbr
    by_cases hlt : k < A.now.length
    · obtain ⟨a, b, ca, cb, hG, hrr⟩ := H2.out.r
      have k0 := hrr.k0
      have k1 := hrr.k1
      have q0 := hrr.r1.cell (getN_get hlt)
      have q1 := hrr.r2.cell (getN_get (i := k) (by rw [HL.out]; exact hlt))
      have q2 := (HROW.out.same (hbr.block g HROW.out.lt)).cell (getN_get hlt)
      have L0 : ∀ W, Below wr.heap.size wr W → Calls Try.prog 45 #[pt p, .int .i64 (k : Int)] W _ := fun W hb => count_in (H2.out.below hb).a H2.out.ok k hlt
      have L1 : ∀ W, Below wr.heap.size wr W → Calls Try.prog 46 #[pt p, .int .i64 (k : Int)] W _ := fun W hb => was_in (H2.out.below hb).a H2.out.ok k hlt
      unfold pt at L0 L1
      have HL0 := Lib.hid L0
      have HL1 := Lib.hid L1
      have hx := H2.out.ok.now _ (List.mem_of_getElem? (getN_get hlt))
      have hy := H2.out.ok.was _ (List.mem_of_getElem? (getN_get (i := k) (by rw [HL.out]; exact hlt)))
      have hkw : k < A.was.length := by rw [HL.out]; exact hlt
      generalize getN A.now k = x at *
      generalize getN A.was k = y at *
      clear L0 L1 hG hrr hbr
      go_wp2_with fail
      go_quiet ((first
        | (go_at_call 45; exact Calls.quiet_of_same (HL0.out _ (below_drewN (Below.refl _ _) _)))
        | (go_at_call 46; exact Calls.quiet_of_same (HL1.out _ (below_drewN (Below.refl _ _) _)))))
      go_wp2_with fail
      go_roundw
      case rel => exact ⟨k + 1, by omega, by go_num, below_drewN HBR.out _⟩
      case measure => simp [intOf]; omega
    · obtain rfl : k = A.now.length := by omega
      have hA := H2.out.a
      have C1 := count_out hA H2.out.ok (-1) (.inl (by omega))
      have C2 := count_out hA H2.out.ok (A.now.length : Int) (.inr (by omega))
      have C3 := was_out hA H2.out.ok (-1) (.inl (by omega))
      have C4 := was_out hA H2.out.ok 1001 (.inr (by omega))
      unfold pt at C1 C2 C3 C4
      clear hA hbr
      go_wp2_with fail
      refine (C1).mono ?_
      rintro e w2 ⟨rfl, rfl⟩
      go_wp2_with fail
      refine (C2).mono ?_
      rintro e w3 ⟨rfl, rfl⟩
      go_wp2_with fail
      refine (C3).mono ?_
      rintro e w4 ⟨rfl, rfl⟩
      go_wp2_with fail
      refine (C4).mono ?_
      rintro e w5 ⟨rfl, rfl⟩
      go_wp2_with fail
      go_ret
      exact ⟨rfl, bthen HB1.out HBR.out⟩
end Go.Proofs.Ytgokaoajpidhnaa
