/- Several texts in one: Known13 Part13. -/
import Derived.Test.YthkmihedkddnmaaCB
namespace Go.Proofs.Ythkmihedkddnmaa
open Go.RowKit
set_option linter.unusedVariables false
set_option linter.unusedSimpArgs false
open Wire Cmd

def k8 : Op0 := ⟨8, 0, 0, 0, 0, 0, []⟩
def k2 : Op0 := ⟨2, 1, 0, 0, 0, 0, []⟩
def k5 : Op0 := ⟨5, 1, 0, 0, 0, 0, List.replicate 64 0⟩
theorem pk8 : packO k8 = some [8] := by kernel_rfl
theorem pk2 : packO k2 = some [2, 1, 0, 0, 0] := by kernel_rfl
theorem pk5' : (packO k5).map List.length = some 77 := by kernel_rfl
theorem pk5 : ∃ l, packO k5 = some l ∧ l.length = 77 := by
  have := pk5'
  cases h : packO k5 with
  | none => rw [h] at this; cases this
  | some l => rw [h] at this; exact ⟨l, rfl, by simpa using this⟩
theorem okOp {k : Int} {v : Nat} {d : List UInt8} (h : -9223372036854775808 ≤ k ∧ k ≤ 9223372036854775807) (hv : v < 10) : (⟨k, v, 0, 0, 0, 0, d⟩ : Op0).Ok := ⟨h, by show v < _; omega, by show 0 < _; omega, by show (-9223372036854775808 : Int) ≤ 0 ∧ (0 : Int) ≤ 9223372036854775807; omega, by show (-9223372036854775808 : Int) ≤ 0 ∧ (0 : Int) ≤ 9223372036854775807; omega, by show (-9223372036854775808 : Int) ≤ 0 ∧ (0 : Int) ≤ 9223372036854775807; omega⟩
theorem PackP.yes {w w' : World} {o : Option (List UInt8)} {bs : List UInt8} {e : Ending} (h : PackP w o e w') (ho : o = some bs) : ∃ ao cap, e = .returned (.tuple #[.slice ao bs.length cap, .int .i64 0]) ∧ Below w.heap.size w w' ∧ w'.ownsRow w.heap.size 5 1 (.slice ao bs.length cap) bs.length (bV bs) := by
  obtain ⟨hb, hP⟩ := h
  rw [ho] at hP
  obtain ⟨v', rfl, ho'⟩ := hP
  obtain ⟨ao, cap, rfl, _⟩ := Rd.of_own ho'
  exact ⟨ao, cap, rfl, hb, ho'⟩

set_option maxRecDepth 100000 in
set_option maxHeartbeats 1600000 in
theorem much13_any (o : Op0) (ao : Option Addr) (cap : Nat) (w : World) (hl : o.data.length ≤ 9223372036854775807) : Calls Try.prog 6 #[.agg (oC o (.slice ao o.data.length cap))] w fun e w' => e = .returned (.bool (decide (9000 < (o.data.length : Int)))) ∧ Below w.heap.size w w' := by
  have hb := balloc (Below.refl _ w) (.cells (oC o (.slice ao o.data.length cap)) 27)
  unfold oC at *
  have HB := Lib.hid hb
  clear hb
  generalize o.data.length = n at *
  go_enter Try.func6, Try.ntmps6
  go_wp2_with fail
  go_ret
  exact ⟨rfl, HB.out⟩
end Go.Proofs.Ythkmihedkddnmaa
/- command.Part, walked. -/
namespace Go.Proofs.Ythkmihedkddnmaa
open Go.RowKit
set_option linter.unusedVariables false
set_option linter.unusedSimpArgs false
open Wire Cmd

/-- What an operation names besides its volume. -/
def partV (o : Op0) : Value :=
  if o.k = 1 ∨ o.k = 3 then .iface 3 (.int .i64 o.size)
  else if o.k = 4 then .iface 72 (.agg #[.int .u64 (o.vol : Int), .int .u64 (o.to : Int)])
  else if o.k = 5 then .iface 74 (.agg #[.int .i64 o.pl, .int .i64 ((o.data.length : Int) / 64)])
  else if o.k = 6 ∨ o.k = 9 then .iface 74 (.agg #[.int .i64 o.pl, .int .i64 o.count])
  else if o.k = 7 then .iface 75 (.agg #[.int .i64 o.pl, .int .i64 o.count])
  else .nilIface

set_option maxRecDepth 100000 in
set_option maxHeartbeats 3200000 in
theorem part13_any (o : Op0) (ao : Option Addr) (cap : Nat) (w : World) (hl : o.data.length ≤ 9223372036854775807) : Calls Try.prog 34 #[.agg (oC o (.slice ao o.data.length cap))] w fun e w' => e = .returned (partV o) ∧ Below w.heap.size w w' := by
  have hb := balloc (Below.refl _ w) (.cells (oC o (.slice ao o.data.length cap)) 27)
  obtain ⟨k, vol, dst, size, pl, count, data⟩ := o
  unfold oC at *
  dsimp only at hb hl ⊢
  have HB := Lib.hid hb
  clear hb
  have HL := Lib.hid hl
  by_cases h1 : k = 1
  · have HE : Hid (partV ⟨k, vol, dst, size, pl, count, data⟩ = .iface 3 (.int .i64 size)) := Lib.hid (by unfold partV; rw [if_pos (.inl h1)])
    subst h1
    go_enter Try.func34, Try.ntmps34
    go_wp2_with fail
    go_ret
    exact ⟨by rw [HE.out]; rfl, HB.out⟩
  by_cases h3 : k = 3
  · have HE : Hid (partV ⟨k, vol, dst, size, pl, count, data⟩ = .iface 3 (.int .i64 size)) := Lib.hid (by unfold partV; rw [if_pos (.inr h3)])
    subst h3
    go_enter Try.func34, Try.ntmps34
    go_wp2_with fail
    go_ret
    exact ⟨by rw [HE.out]; rfl, HB.out⟩
  by_cases h4 : k = 4
  · have HE : Hid (partV ⟨k, vol, dst, size, pl, count, data⟩ = .iface 72 (.agg #[.int .u64 (vol : Int), .int .u64 (dst : Int)])) := Lib.hid (by subst h4; rfl)
    subst h4
    clear h1 h3
    go_enter Try.func34, Try.ntmps34
    go_wp2_with fail
    go_ret
    exact ⟨by rw [HE.out]; rfl, HB.out⟩
  by_cases h5 : k = 5
  · have HE : Hid (partV ⟨k, vol, dst, size, pl, count, data⟩ = .iface 74 (.agg #[.int .i64 pl, .int .i64 ((data.length : Int) / 64)])) := Lib.hid (by subst h5; rfl)
    subst h5
    clear h1 h3 h4
    generalize data.length = n at *
    go_enter Try.func34, Try.ntmps34
    go_wp2_with fail
    go_ret
    exact ⟨by rw [HE.out]; rfl, HB.out⟩
  by_cases h6 : k = 6
  · have HE : Hid (partV ⟨k, vol, dst, size, pl, count, data⟩ = .iface 74 (.agg #[.int .i64 pl, .int .i64 count])) := Lib.hid (by subst h6; rfl)
    subst h6
    clear h1 h3 h4 h5
    go_enter Try.func34, Try.ntmps34
    go_wp2_with fail
    go_ret
    exact ⟨by rw [HE.out]; rfl, HB.out⟩
  by_cases h9 : k = 9
  · have HE : Hid (partV ⟨k, vol, dst, size, pl, count, data⟩ = .iface 74 (.agg #[.int .i64 pl, .int .i64 count])) := Lib.hid (by subst h9; rfl)
    subst h9
    clear h1 h3 h4 h5 h6
    go_enter Try.func34, Try.ntmps34
    go_wp2_with fail
    go_ret
    exact ⟨by rw [HE.out]; rfl, HB.out⟩
  by_cases h7 : k = 7
  · have HE : Hid (partV ⟨k, vol, dst, size, pl, count, data⟩ = .iface 75 (.agg #[.int .i64 pl, .int .i64 count])) := Lib.hid (by subst h7; rfl)
    subst h7
    clear h1 h3 h4 h5 h6 h9
    go_enter Try.func34, Try.ntmps34
    go_wp2_with fail
    go_ret
    exact ⟨by rw [HE.out]; rfl, HB.out⟩
  have HE : Hid (partV ⟨k, vol, dst, size, pl, count, data⟩ = .nilIface) := Lib.hid (by
    unfold partV
    rw [if_neg (fun h => by rcases h with h | h; exact h1 h; exact h3 h), if_neg h4, if_neg h5, if_neg (fun h => by rcases h with h | h; exact h6 h; exact h9 h), if_neg h7])
  have g1 := bneI h1
  have g3 := bneI h3
  have g4 := bneI h4
  have g5 := bneI h5
  have g6 := bneI h6
  have g9 := bneI h9
  have g7 := bneI h7
  clear h1 h3 h4 h5 h6 h9 h7
  go_enter Try.func34, Try.ntmps34
  go_wp2_with fail
  go_ret
  exact ⟨by rw [HE.out]; rfl, HB.out⟩
end Go.Proofs.Ythkmihedkddnmaa
