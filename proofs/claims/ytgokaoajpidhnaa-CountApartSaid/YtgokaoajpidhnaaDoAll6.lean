/- The law's acts, walked: any act. -/
import Derived.Test.YtgokaoajpidhnaaDo6b
import Derived.Test.YtgokaoajpidhnaaDo6c
import Derived.Test.YtgokaoajpidhnaaDo6d
import Derived.Test.YtgokaoajpidhnaaDo6g
import Derived.Test.YtgokaoajpidhnaaDo6h
namespace Go.Proofs.Ytgokaoajpidhnaa
open Go.RowKit
set_option linter.unusedVariables false
theorem do_any {w : World} {p r : Nat} {A : M} {F G : List Nat} (h : Two w p r A F G) (k n : Int) :
    Calls Try.prog 36 #[pt p, pt r, .agg #[.int .i64 k, .int .i64 n]] w fun e w' => e = .returned (.bool true) ∧ TwoP p r F G w w' := by
  by_cases hk : k < 1 ∨ 7 < k
  · by_cases hn : 0 ≤ n
    · exact do_else_pos h k n hk hn
    · exact do_else_neg h k n hk (by omega)
  · by_cases hlo : n < 0
    · have hc : k = 1 ∨ k = 2 ∨ k = 3 ∨ k = 4 ∨ k = 5 ∨ k = 6 ∨ k = 7 := by omega
      rcases hc with rfl | rfl | rfl | rfl | rfl | rfl | rfl
      · exact do_alloc h n
      · exact do_inc_low h n hlo
      · exact do_dec_low h n hlo
      · exact do_set_low h n hlo
      · exact do_commit_neg h n hlo
      · exact do_abort_neg h n hlo
      · exact do_grow_neg h n hlo
    · have hc : k = 1 ∨ k = 5 ∨ k = 6 ∨ k = 2 ∨ k = 3 ∨ k = 4 ∨ k = 7 := by omega
      rcases hc with rfl | rfl | rfl | hc
      · exact do_alloc h n
      · exact do_commit_pos h n (by omega)
      · exact do_abort_pos h n (by omega)
      · by_cases hhi : (A.now.length : Int) ≤ n
        · rcases hc with rfl | rfl | rfl | rfl
          · exact do_inc_high h n hhi
          · exact do_dec_high h n hhi
          · exact do_set_high h n hhi
          · by_cases hm : 1000 < n
            · exact do_grow_high h n hm
            · obtain ⟨m, rfl⟩ : ∃ m : Nat, n = ((A.now.length + m : Nat) : Int) := ⟨(n - A.now.length).toNat, by omega⟩
              exact do_grow_in h A.now.length m rfl (by omega)
        · obtain ⟨i, rfl⟩ : ∃ i : Nat, n = (i : Int) := ⟨n.toNat, by omega⟩
          have hi : i < A.now.length := by omega
          rcases hc with rfl | rfl | rfl | rfl
          · by_cases h5 : getN A.now i = 65535
            · exact do_inc_full h i hi h5
            · by_cases h0 : getN A.now i = 0
              · exact do_inc_none h i hi h0
              · exact do_inc_in h i hi h0 h5
          · by_cases h0 : getN A.now i = 0
            · exact do_dec_none h i hi h0
            · exact do_dec_in h i hi h0
          · exact do_set_in h i hi
          · exact do_grow_low h i (by omega) (by omega)
end Go.Proofs.Ytgokaoajpidhnaa
