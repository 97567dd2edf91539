/- Devices: Size, walked. -/
import Derived.Test.YthkmihedkddnmaaDev6
namespace Go.Proofs.Ythkmihedkddnmaa
open Go.RowKit Go.Maps
set_option linter.unusedVariables false
set_option linter.unusedSimpArgs false

theorem undU64 : Try.prog.underlying 24 = some (.int .u64) := Try.underlying24
theorem undAll : Try.prog.underlying 47 = some (.map 24 53) := by kernel_rfl
theorem undBlks : Try.prog.underlying 51 = some (.map 3 42) := by kernel_rfl
theorem zeroVol (w : World) : (zeroValue 53).run Try.prog w = .ok (.agg #[.int .i64 0, .map none]) w := by kernel_rfl
theorem wfU {n : Nat} (h : n < 18446744073709551616) : (Lit.int .u64 (n : Int)).wf = true := by
  have e1 : IntKind.u64.min = 0 := rfl
  have e2 : IntKind.u64.max = 18446744073709551615 := rfl
  simp [Lit.wf, e1, e2]
  omega
/-- A volume, looked up: there. -/
theorem DevAt.look {n0 : Nat} {w : World} {B Ba : Nat} {l : List (Nat × (Vl × Nat))} (h : DevAt n0 w B Ba l) {n : Nat} (hn : n < 18446744073709551616) {x : Vl × Nat} (hg : getA n l = some x) :
    (Instr.lookup 47 (.map (some Ba)) (.int .u64 (n : Int)) true).run Try.prog w = .ok (.tuple #[.agg #[.int .i64 (x.1.size : Int), .map (some x.2)], .bool true]) w ∧
    (Instr.lookup 47 (.map (some Ba)) (.int .u64 (n : Int)) false).run Try.prog w = .ok (.agg #[.int .i64 (x.1.size : Int), .map (some x.2)]) w := by
  obtain ⟨v, ps, h1, h2⟩ := h.all.lookOk undU64 undAll (zeroVol w) (RVol_mk 0 none) (wfU hn)
  obtain ⟨v', ps', h3, h4⟩ := h.all.look undU64 undAll (zeroVol w) (RVol_mk 0 none) (wfU hn)
  rw [hg] at h1 h2 h4
  obtain ⟨rfl, _⟩ := RVol_inv h2
  obtain ⟨rfl, _⟩ := RVol_inv h4
  exact ⟨h1, h3⟩
/-- Looked up: not there. -/
theorem DevAt.lookNo {n0 : Nat} {w : World} {B Ba : Nat} {l : List (Nat × (Vl × Nat))} (h : DevAt n0 w B Ba l) {n : Nat} (hn : n < 18446744073709551616) (hg : getA n l = none) :
    (Instr.lookup 47 (.map (some Ba)) (.int .u64 (n : Int)) true).run Try.prog w = .ok (.tuple #[.agg #[.int .i64 0, .map none], .bool false]) w ∧
    (Instr.lookup 47 (.map (some Ba)) (.int .u64 (n : Int)) false).run Try.prog w = .ok (.agg #[.int .i64 0, .map none]) w := by
  obtain ⟨v, ps, h1, h2⟩ := h.all.lookOk undU64 undAll (zeroVol w) (RVol_mk 0 none) (wfU hn)
  obtain ⟨v', ps', h3, h4⟩ := h.all.look undU64 undAll (zeroVol w) (RVol_mk 0 none) (wfU hn)
  rw [hg] at h1 h2 h4
  obtain ⟨rfl, _⟩ := RVol_inv h2
  obtain ⟨rfl, _⟩ := RVol_inv h4
  exact ⟨h1, h3⟩
set_option maxRecDepth 100000 in
set_option maxHeartbeats 800000 in
theorem dsize_no (w : World) (v : Value) (n : Int) (h : DevV w v false) : Calls Try.prog 12 #[v, .int .u64 n] w fun e w' => e = .returned (.tuple #[.int .i64 0, .bool false]) ∧ w = w' := by
  have CT := dthere_any w v false h
  clear h
  go_enter Try.func12, Try.ntmps12
  go_wp2_with fail
  refine CT.mono ?_
  rintro e w1 ⟨rfl, rfl⟩
  go_wp2_with fail
  go_ret2
  exact ⟨rfl, rfl⟩
set_option maxRecDepth 100000 in
set_option maxHeartbeats 800000 in
theorem dsize_in (n0 : Nat) (w : World) (B Ba : Nat) (l : List (Nat × (Vl × Nat))) (h : DevAt n0 w B Ba l) (n : Nat) (hn : n < 18446744073709551616) (x : Vl × Nat) (hg : getA n l = some x) :
    Calls Try.prog 12 #[.pointer (some ⟨B, 0, none⟩), .int .u64 (n : Int)] w fun e w' => e = .returned (.tuple #[.int .i64 (x.1.size : Int), .bool true]) ∧ Below w.heap.size w w' := by
  have CT := dthere_any w _ true h.dv
  have c0 := h.cell
  obtain ⟨hl, _⟩ := h.look hn hg
  clear h hg
  go_enter Try.func12, Try.ntmps12
  go_wp2_with fail
  refine CT.mono ?_
  rintro e w1 ⟨rfl, rfl⟩
  go_wp2_with fail
  go_ret2
  exact ⟨rfl, balloc (Below.refl _ _) _⟩
set_option maxRecDepth 100000 in
set_option maxHeartbeats 800000 in
theorem dsize_out (n0 : Nat) (w : World) (B Ba : Nat) (l : List (Nat × (Vl × Nat))) (h : DevAt n0 w B Ba l) (n : Nat) (hn : n < 18446744073709551616) (hg : getA n l = none) :
    Calls Try.prog 12 #[.pointer (some ⟨B, 0, none⟩), .int .u64 (n : Int)] w fun e w' => e = .returned (.tuple #[.int .i64 0, .bool false]) ∧ Below w.heap.size w w' := by
  have CT := dthere_any w _ true h.dv
  have c0 := h.cell
  obtain ⟨hl, _⟩ := h.lookNo hn hg
  clear h hg
  go_enter Try.func12, Try.ntmps12
  go_wp2_with fail
  refine CT.mono ?_
  rintro e w1 ⟨rfl, rfl⟩
  go_wp2_with fail
  go_ret2
  exact ⟨rfl, balloc (Below.refl _ _) _⟩
end Go.Proofs.Ythkmihedkddnmaa
