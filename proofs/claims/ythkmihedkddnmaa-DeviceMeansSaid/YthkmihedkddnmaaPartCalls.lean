/- part.Blocks, part.Split: walked over the iterator's contract. -/
import Derived.Test.YthkmihedkddnmaaPartIt2
namespace Go.Proofs.Ythkmihedkddnmaa
open Go.RowKit Go.Shelf
set_option linter.unusedVariables false
attribute [local go_sem] Oper.semAt_some

theorem over_in (F : Fence) (n : Nat) (h65 : F.fn 40) (hro : F.round = none) (a c : Int) (w : World) : CallsIn F n Try.prog 40 #[.int .i64 a, .int .i64 c] w fun e w' =>
    e = .returned (.func (.func 50) #[] #[.pointer (some ⟨w.heap.size, 0, none⟩), .pointer (some ⟨w.heap.size + 1, 0, none⟩)]) ∧ (w.alloc (.cells #[.int .i64 a] 3)).alloc (.cells #[.int .i64 c] 3) = w' := by
  refine callsIn_of_wp Try.func40 rfl h65 ?_ hro
  simp only [Try.ntmps40, List.size_toArray, List.length_cons, List.length_nil, Nat.reduceAdd, Nat.reduceSub, Array.replicate_succ, Array.replicate_zero, List.push_toArray, List.append_toArray, List.nil_append, List.cons_append]
  gi_wp2
  go_ret
  exact ⟨rfl, rfl⟩

theorem pItemsI_len_le (a c : Int) : (pItemsI a c).length ≤ 1073741824 := by
  unfold pItemsI
  split
  · rename_i h
    simp only [pOk, Bool.and_eq_true, decide_eq_true_eq] at h
    rw [pItems_len]
    have := @pM_le a.toNat c.toNat
    omega
  · simp

end Go.Proofs.Ythkmihedkddnmaa
