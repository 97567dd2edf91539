/- command.Part, walked. -/
import Derived.Test.YtgkelbdgdhkeoaaKnown13
namespace Go.Proofs.Ytgkelbdgdhkeoaa
open Go.RowKit
set_option linter.unusedVariables false
set_option linter.unusedSimpArgs false
open Wire Cmd

/-- What an operation names besides its volume. -/
def partV (o : Op0) : Value :=
  if o.k = 1 ∨ o.k = 3 then .iface 3 (.int .i64 o.size)
  else if o.k = 4 then .iface 44 (.agg #[.int .u64 (o.vol : Int), .int .u64 (o.to : Int)])
  else if o.k = 5 then .iface 38 (.agg #[.int .i64 o.pl, .int .i64 ((o.data.length : Int) / 64)])
  else if o.k = 6 ∨ o.k = 9 then .iface 38 (.agg #[.int .i64 o.pl, .int .i64 o.count])
  else if o.k = 7 then .iface 40 (.agg #[.int .i64 o.pl, .int .i64 o.count])
  else .nilIface

set_option maxRecDepth 100000 in
set_option maxHeartbeats 3200000 in
theorem part13_any (o : Op0) (ao : Option Addr) (cap : Nat) (w : World) (hl : o.data.length ≤ 9223372036854775807) : Calls Try.prog 28 #[.agg (oC o (.slice ao o.data.length cap))] w fun e w' => e = .returned (partV o) ∧ Below w.heap.size w w' := by
  have hb := balloc (Below.refl _ w) (.cells (oC o (.slice ao o.data.length cap)) 26)
  obtain ⟨k, vol, dst, size, pl, count, data⟩ := o
  unfold oC at *
  dsimp only at hb hl ⊢
  have HB := Lib.hid hb
  clear hb
  have HL := Lib.hid hl
  by_cases h1 : k = 1
  · have HE : Hid (partV ⟨k, vol, dst, size, pl, count, data⟩ = .iface 3 (.int .i64 size)) := Lib.hid (by unfold partV; rw [if_pos (.inl h1)])
    subst h1
    go_enter Try.func28, Try.ntmps28
    go_wp2_with fail
    go_ret
    exact ⟨by rw [HE.out]; rfl, HB.out⟩
  by_cases h3 : k = 3
  · have HE : Hid (partV ⟨k, vol, dst, size, pl, count, data⟩ = .iface 3 (.int .i64 size)) := Lib.hid (by unfold partV; rw [if_pos (.inr h3)])
    subst h3
    go_enter Try.func28, Try.ntmps28
    go_wp2_with fail
    go_ret
    exact ⟨by rw [HE.out]; rfl, HB.out⟩
  by_cases h4 : k = 4
  · have HE : Hid (partV ⟨k, vol, dst, size, pl, count, data⟩ = .iface 44 (.agg #[.int .u64 (vol : Int), .int .u64 (dst : Int)])) := Lib.hid (by subst h4; rfl)
    subst h4
    clear h1 h3
    go_enter Try.func28, Try.ntmps28
    go_wp2_with fail
    go_ret
    exact ⟨by rw [HE.out]; rfl, HB.out⟩
  by_cases h5 : k = 5
  · have HE : Hid (partV ⟨k, vol, dst, size, pl, count, data⟩ = .iface 38 (.agg #[.int .i64 pl, .int .i64 ((data.length : Int) / 64)])) := Lib.hid (by subst h5; rfl)
    subst h5
    clear h1 h3 h4
    generalize data.length = n at *
    go_enter Try.func28, Try.ntmps28
    go_wp2_with fail
    go_ret
    exact ⟨by rw [HE.out]; rfl, HB.out⟩
  by_cases h6 : k = 6
  · have HE : Hid (partV ⟨k, vol, dst, size, pl, count, data⟩ = .iface 38 (.agg #[.int .i64 pl, .int .i64 count])) := Lib.hid (by subst h6; rfl)
    subst h6
    clear h1 h3 h4 h5
    go_enter Try.func28, Try.ntmps28
    go_wp2_with fail
    go_ret
    exact ⟨by rw [HE.out]; rfl, HB.out⟩
  by_cases h9 : k = 9
  · have HE : Hid (partV ⟨k, vol, dst, size, pl, count, data⟩ = .iface 38 (.agg #[.int .i64 pl, .int .i64 count])) := Lib.hid (by subst h9; rfl)
    subst h9
    clear h1 h3 h4 h5 h6
    go_enter Try.func28, Try.ntmps28
    go_wp2_with fail
    go_ret
    exact ⟨by rw [HE.out]; rfl, HB.out⟩
  by_cases h7 : k = 7
  · have HE : Hid (partV ⟨k, vol, dst, size, pl, count, data⟩ = .iface 40 (.agg #[.int .i64 pl, .int .i64 count])) := Lib.hid (by subst h7; rfl)
    subst h7
    clear h1 h3 h4 h5 h6 h9
    go_enter Try.func28, Try.ntmps28
    go_wp2_with fail
    go_ret
    exact ⟨by rw [HE.out]; rfl, HB.out⟩
  have HE : Hid (partV ⟨k, vol, dst, size, pl, count, data⟩ = .nilIface) := Lib.hid (by
    unfold partV
    rw [if_neg (fun h => by rcases h with h | h; exact h1 h; exact h3 h), if_neg h4, if_neg h5, if_neg (fun h => by rcases h with h | h; exact h6 h; exact h9 h), if_neg h7])
  have g1 := bneI h1
  have g3 := bneI h3
  have g4 := bneI h4
  have g5 := bneI h5
  have g6 := bneI h6
  have g9 := bneI h9
  have g7 := bneI h7
  clear h1 h3 h4 h5 h6 h9 h7
  go_enter Try.func28, Try.ntmps28
  go_wp2_with fail
  go_ret
  exact ⟨by rw [HE.out]; rfl, HB.out⟩
end Go.Proofs.Ytgkelbdgdhkeoaa
