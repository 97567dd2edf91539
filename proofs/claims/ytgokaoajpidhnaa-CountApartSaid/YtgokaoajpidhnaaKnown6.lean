/- The law's known rows, walked. -/
import Derived.Test.YtgokaoajpidhnaaCount6
namespace Go.Proofs.Ytgokaoajpidhnaa
open Go.RowKit
set_option linter.unusedVariables false

theorem alloc_hit {w : World} {p : Nat} {A : M} {F : List Nat} {i : Nat} (h : IA w p A F) (ok : A.Ok) (hf : find A 0 = some i) :
    Calls Try.prog 42 #[pt p] w fun e w' => e = .returned (.tuple #[.int .i64 (i : Int), .int .i64 0]) ∧ IA w' p (allocM A i) F ∧ Left F w w' F := by
  refine (alloc_any h ok).mono ?_
  intro e w' hp
  unfold AllocP at hp
  rw [hf] at hp
  exact hp
theorem alloc_miss {w : World} {p : Nat} {A : M} {F : List Nat} (h : IA w p A F) (ok : A.Ok) (hf : find A 0 = none) :
    Calls Try.prog 42 #[pt p] w fun e w' => e = .returned (.tuple #[.int .i64 0, .int .i64 8]) ∧ Below w.heap.size w w' := by
  refine (alloc_any h ok).mono ?_
  intro e w' hp
  unfold AllocP at hp
  rw [hf] at hp
  exact hp
theorem IA.below {w w' : World} {p : Nat} {A : M} {F : List Nat} (h : IA w p A F) (hb : Below w.heap.size w w') : IA w' p A F := h.same fun k hk => hb.block k (h.lt k hk)
theorem left_below {F G : List Nat} {w w1 w2 : World} (hb : Below w.heap.size w w1) (h : Left F w1 w2 G) (hF : ∀ k ∈ F, w.heap.size ≤ k) : Below w.heap.size w w2 := hb.trans (h.1.below hF hb.size)

theorem ok0 (now was : List Nat) (a k : Nat) (h : now.length = 3 ∧ was.length = 3 ∧ a < 3 ∧ k < 3 ∧ (∀ x ∈ now, x < 65536) ∧ ∀ x ∈ was, x < 65536) : M.Ok ⟨now, was, a, k⟩ := by
  obtain ⟨h1, h2, h3, h4, h5, h6⟩ := h
  exact ⟨by simp [h1], by simp [h1], by simp [h1, h2], by simp [h1, h3], by simp [h1, h4], h5, h6⟩

set_option maxRecDepth 100000 in
set_option maxHeartbeats 1600000 in
theorem known6 {w : World} : Calls Try.prog 32 #[] w fun e w' => e = .returned (.bool true) ∧ Below w.heap.size w w' := by
  have hrd : Rd (w.alloc (.cells #[.int .u16 1, .int .u16 0, .int .u16 0] 65)) 1 (.slice (some ⟨w.heap.size, 0, none⟩) 3 3) 3 (kV .u16 [1, 0, 0]) := by
    have hh := heap_alloc_new w (.cells #[.int .u16 1, .int .u16 0, .int .u16 0] 65)
    refine ⟨_, _, rfl, rfl, by decide, ⟨(fun e => by cases e), by decide, by decide⟩, fun j u hj => ⟨w.heap.size, 0, rfl, by simp, ?_⟩⟩
    rw [Nat.zero_add, cell_of_row _ _ j _ _ _ hh]
    simpa [kV] using hj
  have hb0 := balloc (Below.refl _ w) (.cells #[.int .u16 1, .int .u16 0, .int .u16 0] 65)
  go_enter Try.func32, Try.ntmps32
  go_wp2_with fail
  refine (new_in _ 3 [1, 0, 0] hrd ⟨by decide, by decide⟩).mono ?_
  rintro e w1 ⟨q, F, rfl, hA, hb1, hF⟩
  have hB1 := bthen hb0 hb1
  have hFF : ∀ k ∈ F, w.heap.size ≤ k := fun k hk => Nat.le_trans hb0.size (hF k hk)
  have C1 := alloc_hit (i := 1) hA (ok0 _ _ _ _ (by decide)) (by decide)
  unfold pt at C1 ⊢
  clear hA hrd hb0 hb1 hF
  go_wp2_with fail
  refine C1.mono ?_
  rintro e w2 ⟨rfl, hA, hl⟩
  have hB2 := left_below hB1 hl hFF
  have C2 := alloc_hit (i := 2) hA (ok0 _ _ _ _ (by decide)) (by decide)
  unfold pt at C2
  clear hA hl hB1 C1
  go_wp2_with fail
  refine C2.mono ?_
  rintro e w3 ⟨rfl, hA, hl⟩
  have hB3 := left_below hB2 hl hFF
  have C3 := alloc_miss hA (ok0 _ _ _ _ (by decide)) (by decide)
  unfold pt at C3
  clear hl hB2 C2
  go_wp2_with fail
  refine C3.mono ?_
  rintro e w4 ⟨rfl, hb4⟩
  have hA := IA.below hA hb4
  have hB4 := bthen hB3 hb4
  have C4 := dec_in hA (ok0 _ _ _ _ (by decide)) 1 (by decide) (by decide)
  unfold pt at C4
  clear hA hB3 hb4 C3
  go_wp2_with fail
  refine C4.mono ?_
  rintro e w5 ⟨rfl, hA, hl⟩
  have hB5 := left_below hB4 hl hFF
  have C5 := alloc_hit (i := 1) hA (ok0 _ _ _ _ (by decide)) (by decide)
  unfold pt at C5
  clear hA hl hB4 C4
  go_wp2_with fail
  refine C5.mono ?_
  rintro e w6 ⟨rfl, hA, hl⟩
  have hB6 := left_below hB5 hl hFF
  clear hA hl hB5 C5
  go_wp2_with fail
  go_ret
  exact ⟨rfl, hB6⟩
end Go.Proofs.Ytgokaoajpidhnaa
