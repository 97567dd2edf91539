/- CommandParts, walked. -/
import Derived.Test.YtgkelbdgdhkeoaaCK
import Derived.Test.YtgkelbdgdhkeoaaWA
namespace Go.Proofs.Ytgkelbdgdhkeoaa
open Go.RowKit
set_option linter.unusedVariables false
set_option linter.unusedSimpArgs false
open Wire Cmd

theorem zeroRow (w : World) : (zeroValue 38).run Try.prog w = .ok (.agg #[.int .i64 0, .int .i64 0]) w := by kernel_rfl
theorem zeroSpace (w : World) : (zeroValue 40).run Try.prog w = .ok (.agg #[.int .i64 0, .int .i64 0]) w := by kernel_rfl
theorem zeroFork (w : World) : (zeroValue 44).run Try.prog w = .ok (.agg #[.int .u64 0, .int .u64 0]) w := by kernel_rfl

/-- What the four assertions answer. -/
theorem as_int (z : Value) (T : TypeId) (w : World) : (Instr.typeAssert (.iface 3 z) T 3 true).run Try.prog w = .ok (.tuple #[z, .bool true]) w := run_assert_hit Try.underlying3 rfl z w
theorem as_row (z : Value) (T : TypeId) (w : World) : (Instr.typeAssert (.iface 38 z) T 38 true).run Try.prog w = .ok (.tuple #[z, .bool true]) w := run_assert_hit Try.underlying38 rfl z w
theorem as_space (z : Value) (T : TypeId) (w : World) : (Instr.typeAssert (.iface 40 z) T 40 true).run Try.prog w = .ok (.tuple #[z, .bool true]) w := run_assert_hit Try.underlying40 rfl z w
theorem as_fork (z : Value) (T : TypeId) (w : World) : (Instr.typeAssert (.iface 44 z) T 44 true).run Try.prog w = .ok (.tuple #[z, .bool true]) w := run_assert_hit Try.underlying44 rfl z w
theorem no_int {t : TypeId} (h : t ≠ 3) (z : Value) (T : TypeId) (w : World) : (Instr.typeAssert (.iface t z) T 3 true).run Try.prog w = .ok (.tuple #[.int .i64 0, .bool false]) w := run_assert_miss Try.underlying3 rfl h zeroInt z w
theorem no_row {t : TypeId} (h : t ≠ 38) (z : Value) (T : TypeId) (w : World) : (Instr.typeAssert (.iface t z) T 38 true).run Try.prog w = .ok (.tuple #[.agg #[.int .i64 0, .int .i64 0], .bool false]) w := run_assert_miss Try.underlying38 rfl h zeroRow z w
theorem no_space {t : TypeId} (h : t ≠ 40) (z : Value) (T : TypeId) (w : World) : (Instr.typeAssert (.iface t z) T 40 true).run Try.prog w = .ok (.tuple #[.agg #[.int .i64 0, .int .i64 0], .bool false]) w := run_assert_miss Try.underlying40 rfl h zeroSpace z w
theorem no_fork {t : TypeId} (h : t ≠ 44) (z : Value) (T : TypeId) (w : World) : (Instr.typeAssert (.iface t z) T 44 true).run Try.prog w = .ok (.tuple #[.agg #[.int .u64 0, .int .u64 0], .bool false]) w := run_assert_miss Try.underlying44 rfl h zeroFork z w
theorem nil_int (T : TypeId) (w : World) : (Instr.typeAssert .nilIface T 3 true).run Try.prog w = .ok (.tuple #[.int .i64 0, .bool false]) w := run_assert_nil Try.underlying3 rfl zeroInt w
theorem nil_row (T : TypeId) (w : World) : (Instr.typeAssert .nilIface T 38 true).run Try.prog w = .ok (.tuple #[.agg #[.int .i64 0, .int .i64 0], .bool false]) w := run_assert_nil Try.underlying38 rfl zeroRow w
theorem nil_space (T : TypeId) (w : World) : (Instr.typeAssert .nilIface T 40 true).run Try.prog w = .ok (.tuple #[.agg #[.int .i64 0, .int .i64 0], .bool false]) w := run_assert_nil Try.underlying40 rfl zeroSpace w
theorem nil_fork (T : TypeId) (w : World) : (Instr.typeAssert .nilIface T 44 true).run Try.prog w = .ok (.tuple #[.agg #[.int .u64 0, .int .u64 0], .bool false]) w := run_assert_nil Try.underlying44 rfl zeroFork w

set_option maxRecDepth 100000 in
set_option maxHeartbeats 6400000 in
theorem commandParts_walk (o : Op0) (ao : Option Addr) (cap : Nat) (w : World) (hl : o.data.length ≤ 9223372036854775807) : Calls Try.prog 4 #[.agg (oC o (.slice ao o.data.length cap))] w fun e w' => e = .returned (.bool true) ∧ Below w.heap.size w w' := by
  have hb0 := balloc (Below.refl _ w) (.cells (oC o (.slice ao o.data.length cap)) 26)
  have hbx0 : (w.alloc (.cells (oC o (.slice ao o.data.length cap)) 26)).heap[w.heap.size]? = some (.cells (oC o (.slice ao o.data.length cap)) 26 (0, 0)) := heap_alloc_new w _
  have CM := much13_any o ao cap (w.alloc (.cells (oC o (.slice ao o.data.length cap)) 26)) hl
  have CP := Lib.hid (fun W => part13_any o ao cap W hl)
  have CK := fun W => known13_any W
  obtain ⟨k, vol, dst, size, pl, count, data⟩ := o
  unfold oC at *
  dsimp only at hb0 hl hbx0 CM ⊢
  have HB0 := Lib.hid hb0
  have HBX0 := Lib.hid hbx0
  clear hb0 hbx0
  have hL := hl
  by_cases hbig : 9000 < (data.length : Int)
  · rw [decide_eq_true hbig] at CM
    go_enter Try.func4, Try.ntmps4
    go_wp2_with fail
    refine CM.mono ?_
    rintro e w1 ⟨rfl, hb1⟩
    have HB1 := Lib.hid (bthen HB0.out hb1)
    clear hb1 CM
    go_wp2_with fail
    refine (CK _).mono ?_
    rintro e w2 ⟨rfl, hb2⟩
    have HB2 := Lib.hid (bthen HB1.out hb2)
    clear hb2
    go_wp2_with fail
    go_ret
    exact ⟨rfl, HB2.out⟩
  rw [decide_eq_false hbig] at CM
  by_cases h1 : k = 1
  · have HPV : Hid (partV ⟨k, vol, dst, size, pl, count, data⟩ = .iface 3 (.int .i64 size)) := Lib.hid (by subst h1; rfl)
    subst h1
    have a1 := fun T W => as_int (.int .i64 size) T W
    have a2 := fun T W => no_row (t := 3) (by decide) (.int .i64 size) T W
    have a3 := fun T W => no_space (t := 3) (by decide) (.int .i64 size) T W
    have a4 := fun T W => no_fork (t := 3) (by decide) (.int .i64 size) T W
    go_enter Try.func4, Try.ntmps4
    go_wp2_with fail
    refine CM.mono ?_
    rintro e w1 ⟨rfl, hb1⟩
    have HB1 := Lib.hid (bthen HB0.out hb1)
    have hbx1 := (hb1.block w.heap.size (by simp)).trans HBX0.out
    have HBX1 := Lib.hid hbx1
    have c0 : w1.cell? ⟨w.heap.size, 0, none⟩ = some (.int .i64 1) := cellIs hbx1 rfl
    have c1 : w1.cell? ⟨w.heap.size, 1, none⟩ = some (.int .u64 (vol : Int)) := cellIs hbx1 rfl
    have c2 : w1.cell? ⟨w.heap.size, 2, none⟩ = some (.int .u64 (dst : Int)) := cellIs hbx1 rfl
    have c3 : w1.cell? ⟨w.heap.size, 3, none⟩ = some (.int .i64 size) := cellIs hbx1 rfl
    have c4 : w1.cell? ⟨w.heap.size, 4, none⟩ = some (.int .i64 pl) := cellIs hbx1 rfl
    have c5 : w1.cell? ⟨w.heap.size, 5, none⟩ = some (.int .i64 count) := cellIs hbx1 rfl
    have c6 : w1.cell? ⟨w.heap.size, 6, none⟩ = some (.slice ao data.length cap) := cellIs hbx1 rfl
    have hlt1 : w.heap.size < w1.heap.size := (Array.getElem?_eq_some_iff.1 hbx1).1
    clear hb1 hbx1 CM
    go_wp2_with fail
    refine (CP.out w1).mono ?_
    rintro e w2 ⟨rfl, hb2⟩
    have HB2 := Lib.hid (bthen HB1.out hb2)
    have hbx2 := (hb2.block w.heap.size hlt1).trans HBX1.out
    clear c0 c1 c2 c3 c4 c5 c6 hlt1
    have c0 : w2.cell? ⟨w.heap.size, 0, none⟩ = some (.int .i64 1) := cellIs hbx2 rfl
    have c1 : w2.cell? ⟨w.heap.size, 1, none⟩ = some (.int .u64 (vol : Int)) := cellIs hbx2 rfl
    have c2 : w2.cell? ⟨w.heap.size, 2, none⟩ = some (.int .u64 (dst : Int)) := cellIs hbx2 rfl
    have c3 : w2.cell? ⟨w.heap.size, 3, none⟩ = some (.int .i64 size) := cellIs hbx2 rfl
    have c4 : w2.cell? ⟨w.heap.size, 4, none⟩ = some (.int .i64 pl) := cellIs hbx2 rfl
    have c5 : w2.cell? ⟨w.heap.size, 5, none⟩ = some (.int .i64 count) := cellIs hbx2 rfl
    have c6 : w2.cell? ⟨w.heap.size, 6, none⟩ = some (.slice ao data.length cap) := cellIs hbx2 rfl
    have hlt2 : w.heap.size < w2.heap.size := (Array.getElem?_eq_some_iff.1 hbx2).1
    have hl3 : w.heap.size < w2.heap.size + 1 := by omega
    have hl4 : w.heap.size < w2.heap.size + 1 + 1 := by omega
    have hn3 : ¬ (w.heap.size = w2.heap.size) := by omega
    have hn4 : ¬ (w.heap.size = w2.heap.size + 1) := by omega
    have hn5 : ¬ (w.heap.size = w2.heap.size + 1 + 1) := by omega
    clear hb2 hbx2
    rw [HPV.out]
    go_wp2_with fail
    refine (CK _).mono ?_
    rintro e w3 ⟨rfl, hb3⟩
    have HB3 := Lib.hid (HB2.out.trans (((balloc (balloc (balloc (Below.refl _ w2) _) _) _).trans (hb3.mono (by simp; omega))).mono HB2.out.size))
    clear hb3
    go_wp2_with fail
    go_ret
    exact ⟨rfl, HB3.out⟩
  by_cases h3 : k = 3
  · have HPV : Hid (partV ⟨k, vol, dst, size, pl, count, data⟩ = .iface 3 (.int .i64 size)) := Lib.hid (by subst h3; rfl)
    subst h3
    clear h1
    have a1 := fun T W => as_int (.int .i64 size) T W
    have a2 := fun T W => no_row (t := 3) (by decide) (.int .i64 size) T W
    have a3 := fun T W => no_space (t := 3) (by decide) (.int .i64 size) T W
    have a4 := fun T W => no_fork (t := 3) (by decide) (.int .i64 size) T W
    go_enter Try.func4, Try.ntmps4
    go_wp2_with fail
    refine CM.mono ?_
    rintro e w1 ⟨rfl, hb1⟩
    have HB1 := Lib.hid (bthen HB0.out hb1)
    have hbx1 := (hb1.block w.heap.size (by simp)).trans HBX0.out
    have HBX1 := Lib.hid hbx1
    have c0 : w1.cell? ⟨w.heap.size, 0, none⟩ = some (.int .i64 3) := cellIs hbx1 rfl
    have c1 : w1.cell? ⟨w.heap.size, 1, none⟩ = some (.int .u64 (vol : Int)) := cellIs hbx1 rfl
    have c2 : w1.cell? ⟨w.heap.size, 2, none⟩ = some (.int .u64 (dst : Int)) := cellIs hbx1 rfl
    have c3 : w1.cell? ⟨w.heap.size, 3, none⟩ = some (.int .i64 size) := cellIs hbx1 rfl
    have c4 : w1.cell? ⟨w.heap.size, 4, none⟩ = some (.int .i64 pl) := cellIs hbx1 rfl
    have c5 : w1.cell? ⟨w.heap.size, 5, none⟩ = some (.int .i64 count) := cellIs hbx1 rfl
    have c6 : w1.cell? ⟨w.heap.size, 6, none⟩ = some (.slice ao data.length cap) := cellIs hbx1 rfl
    have hlt1 : w.heap.size < w1.heap.size := (Array.getElem?_eq_some_iff.1 hbx1).1
    clear hb1 hbx1 CM
    go_wp2_with fail
    refine (CP.out w1).mono ?_
    rintro e w2 ⟨rfl, hb2⟩
    have HB2 := Lib.hid (bthen HB1.out hb2)
    have hbx2 := (hb2.block w.heap.size hlt1).trans HBX1.out
    clear c0 c1 c2 c3 c4 c5 c6 hlt1
    have c0 : w2.cell? ⟨w.heap.size, 0, none⟩ = some (.int .i64 3) := cellIs hbx2 rfl
    have c1 : w2.cell? ⟨w.heap.size, 1, none⟩ = some (.int .u64 (vol : Int)) := cellIs hbx2 rfl
    have c2 : w2.cell? ⟨w.heap.size, 2, none⟩ = some (.int .u64 (dst : Int)) := cellIs hbx2 rfl
    have c3 : w2.cell? ⟨w.heap.size, 3, none⟩ = some (.int .i64 size) := cellIs hbx2 rfl
    have c4 : w2.cell? ⟨w.heap.size, 4, none⟩ = some (.int .i64 pl) := cellIs hbx2 rfl
    have c5 : w2.cell? ⟨w.heap.size, 5, none⟩ = some (.int .i64 count) := cellIs hbx2 rfl
    have c6 : w2.cell? ⟨w.heap.size, 6, none⟩ = some (.slice ao data.length cap) := cellIs hbx2 rfl
    have hlt2 : w.heap.size < w2.heap.size := (Array.getElem?_eq_some_iff.1 hbx2).1
    have hl3 : w.heap.size < w2.heap.size + 1 := by omega
    have hl4 : w.heap.size < w2.heap.size + 1 + 1 := by omega
    have hn3 : ¬ (w.heap.size = w2.heap.size) := by omega
    have hn4 : ¬ (w.heap.size = w2.heap.size + 1) := by omega
    have hn5 : ¬ (w.heap.size = w2.heap.size + 1 + 1) := by omega
    clear hb2 hbx2
    rw [HPV.out]
    go_wp2_with fail
    refine (CK _).mono ?_
    rintro e w3 ⟨rfl, hb3⟩
    have HB3 := Lib.hid (HB2.out.trans (((balloc (balloc (balloc (Below.refl _ w2) _) _) _).trans (hb3.mono (by simp; omega))).mono HB2.out.size))
    clear hb3
    go_wp2_with fail
    go_ret
    exact ⟨rfl, HB3.out⟩
  by_cases h4 : k = 4
  · have HPV : Hid (partV ⟨k, vol, dst, size, pl, count, data⟩ = .iface 44 (.agg #[.int .u64 (vol : Int), .int .u64 (dst : Int)])) := Lib.hid (by subst h4; rfl)
    subst h4
    clear h1 h3
    have a1 := fun T W => no_int (t := 44) (by decide) (.agg #[.int .u64 (vol : Int), .int .u64 (dst : Int)]) T W
    have a2 := fun T W => no_row (t := 44) (by decide) (.agg #[.int .u64 (vol : Int), .int .u64 (dst : Int)]) T W
    have a3 := fun T W => no_space (t := 44) (by decide) (.agg #[.int .u64 (vol : Int), .int .u64 (dst : Int)]) T W
    have a4 := fun T W => as_fork (.agg #[.int .u64 (vol : Int), .int .u64 (dst : Int)]) T W
    go_enter Try.func4, Try.ntmps4
    go_wp2_with fail
    refine CM.mono ?_
    rintro e w1 ⟨rfl, hb1⟩
    have HB1 := Lib.hid (bthen HB0.out hb1)
    have hbx1 := (hb1.block w.heap.size (by simp)).trans HBX0.out
    have HBX1 := Lib.hid hbx1
    have c0 : w1.cell? ⟨w.heap.size, 0, none⟩ = some (.int .i64 4) := cellIs hbx1 rfl
    have c1 : w1.cell? ⟨w.heap.size, 1, none⟩ = some (.int .u64 (vol : Int)) := cellIs hbx1 rfl
    have c2 : w1.cell? ⟨w.heap.size, 2, none⟩ = some (.int .u64 (dst : Int)) := cellIs hbx1 rfl
    have c3 : w1.cell? ⟨w.heap.size, 3, none⟩ = some (.int .i64 size) := cellIs hbx1 rfl
    have c4 : w1.cell? ⟨w.heap.size, 4, none⟩ = some (.int .i64 pl) := cellIs hbx1 rfl
    have c5 : w1.cell? ⟨w.heap.size, 5, none⟩ = some (.int .i64 count) := cellIs hbx1 rfl
    have c6 : w1.cell? ⟨w.heap.size, 6, none⟩ = some (.slice ao data.length cap) := cellIs hbx1 rfl
    have hlt1 : w.heap.size < w1.heap.size := (Array.getElem?_eq_some_iff.1 hbx1).1
    clear hb1 hbx1 CM
    go_wp2_with fail
    refine (CP.out w1).mono ?_
    rintro e w2 ⟨rfl, hb2⟩
    have HB2 := Lib.hid (bthen HB1.out hb2)
    have hbx2 := (hb2.block w.heap.size hlt1).trans HBX1.out
    clear c0 c1 c2 c3 c4 c5 c6 hlt1
    have c0 : w2.cell? ⟨w.heap.size, 0, none⟩ = some (.int .i64 4) := cellIs hbx2 rfl
    have c1 : w2.cell? ⟨w.heap.size, 1, none⟩ = some (.int .u64 (vol : Int)) := cellIs hbx2 rfl
    have c2 : w2.cell? ⟨w.heap.size, 2, none⟩ = some (.int .u64 (dst : Int)) := cellIs hbx2 rfl
    have c3 : w2.cell? ⟨w.heap.size, 3, none⟩ = some (.int .i64 size) := cellIs hbx2 rfl
    have c4 : w2.cell? ⟨w.heap.size, 4, none⟩ = some (.int .i64 pl) := cellIs hbx2 rfl
    have c5 : w2.cell? ⟨w.heap.size, 5, none⟩ = some (.int .i64 count) := cellIs hbx2 rfl
    have c6 : w2.cell? ⟨w.heap.size, 6, none⟩ = some (.slice ao data.length cap) := cellIs hbx2 rfl
    have hlt2 : w.heap.size < w2.heap.size := (Array.getElem?_eq_some_iff.1 hbx2).1
    have hl3 : w.heap.size < w2.heap.size + 1 := by omega
    have hl4 : w.heap.size < w2.heap.size + 1 + 1 := by omega
    have hn3 : ¬ (w.heap.size = w2.heap.size) := by omega
    have hn4 : ¬ (w.heap.size = w2.heap.size + 1) := by omega
    have hn5 : ¬ (w.heap.size = w2.heap.size + 1 + 1) := by omega
    clear hb2 hbx2
    rw [HPV.out]
    go_wp2_with fail
    refine (CK _).mono ?_
    rintro e w3 ⟨rfl, hb3⟩
    have HB3 := Lib.hid (HB2.out.trans (((balloc (balloc (balloc (Below.refl _ w2) _) _) _).trans (hb3.mono (by simp; omega))).mono HB2.out.size))
    clear hb3
    go_wp2_with fail
    go_ret
    exact ⟨rfl, HB3.out⟩
  by_cases h5 : k = 5
  · have HPV : Hid (partV ⟨k, vol, dst, size, pl, count, data⟩ = .iface 38 (.agg #[.int .i64 pl, .int .i64 ((data.length : Int) / 64)])) := Lib.hid (by subst h5; rfl)
    subst h5
    clear h1 h3 h4
    have a1 := fun T W => no_int (t := 38) (by decide) (.agg #[.int .i64 pl, .int .i64 ((data.length : Int) / 64)]) T W
    have a2 := fun T W => as_row (.agg #[.int .i64 pl, .int .i64 ((data.length : Int) / 64)]) T W
    have a3 := fun T W => no_space (t := 38) (by decide) (.agg #[.int .i64 pl, .int .i64 ((data.length : Int) / 64)]) T W
    have a4 := fun T W => no_fork (t := 38) (by decide) (.agg #[.int .i64 pl, .int .i64 ((data.length : Int) / 64)]) T W
    go_enter Try.func4, Try.ntmps4
    go_wp2_with fail
    refine CM.mono ?_
    rintro e w1 ⟨rfl, hb1⟩
    have HB1 := Lib.hid (bthen HB0.out hb1)
    have hbx1 := (hb1.block w.heap.size (by simp)).trans HBX0.out
    have HBX1 := Lib.hid hbx1
    have c0 : w1.cell? ⟨w.heap.size, 0, none⟩ = some (.int .i64 5) := cellIs hbx1 rfl
    have c1 : w1.cell? ⟨w.heap.size, 1, none⟩ = some (.int .u64 (vol : Int)) := cellIs hbx1 rfl
    have c2 : w1.cell? ⟨w.heap.size, 2, none⟩ = some (.int .u64 (dst : Int)) := cellIs hbx1 rfl
    have c3 : w1.cell? ⟨w.heap.size, 3, none⟩ = some (.int .i64 size) := cellIs hbx1 rfl
    have c4 : w1.cell? ⟨w.heap.size, 4, none⟩ = some (.int .i64 pl) := cellIs hbx1 rfl
    have c5 : w1.cell? ⟨w.heap.size, 5, none⟩ = some (.int .i64 count) := cellIs hbx1 rfl
    have c6 : w1.cell? ⟨w.heap.size, 6, none⟩ = some (.slice ao data.length cap) := cellIs hbx1 rfl
    have hlt1 : w.heap.size < w1.heap.size := (Array.getElem?_eq_some_iff.1 hbx1).1
    clear hb1 hbx1 CM
    go_wp2_with fail
    refine (CP.out w1).mono ?_
    rintro e w2 ⟨rfl, hb2⟩
    have HB2 := Lib.hid (bthen HB1.out hb2)
    have hbx2 := (hb2.block w.heap.size hlt1).trans HBX1.out
    clear c0 c1 c2 c3 c4 c5 c6 hlt1
    have c0 : w2.cell? ⟨w.heap.size, 0, none⟩ = some (.int .i64 5) := cellIs hbx2 rfl
    have c1 : w2.cell? ⟨w.heap.size, 1, none⟩ = some (.int .u64 (vol : Int)) := cellIs hbx2 rfl
    have c2 : w2.cell? ⟨w.heap.size, 2, none⟩ = some (.int .u64 (dst : Int)) := cellIs hbx2 rfl
    have c3 : w2.cell? ⟨w.heap.size, 3, none⟩ = some (.int .i64 size) := cellIs hbx2 rfl
    have c4 : w2.cell? ⟨w.heap.size, 4, none⟩ = some (.int .i64 pl) := cellIs hbx2 rfl
    have c5 : w2.cell? ⟨w.heap.size, 5, none⟩ = some (.int .i64 count) := cellIs hbx2 rfl
    have c6 : w2.cell? ⟨w.heap.size, 6, none⟩ = some (.slice ao data.length cap) := cellIs hbx2 rfl
    have hlt2 : w.heap.size < w2.heap.size := (Array.getElem?_eq_some_iff.1 hbx2).1
    have hl3 : w.heap.size < w2.heap.size + 1 := by omega
    have hl4 : w.heap.size < w2.heap.size + 1 + 1 := by omega
    have hn3 : ¬ (w.heap.size = w2.heap.size) := by omega
    have hn4 : ¬ (w.heap.size = w2.heap.size + 1) := by omega
    have hn5 : ¬ (w.heap.size = w2.heap.size + 1 + 1) := by omega
    clear hb2 hbx2
    rw [HPV.out]
    go_wp2_with fail
    refine (CK _).mono ?_
    rintro e w3 ⟨rfl, hb3⟩
    have HB3 := Lib.hid (HB2.out.trans (((balloc (balloc (balloc (Below.refl _ w2) _) _) _).trans (hb3.mono (by simp; omega))).mono HB2.out.size))
    clear hb3
    go_wp2_with fail
    go_ret
    exact ⟨rfl, HB3.out⟩
  by_cases h6 : k = 6
  · have HPV : Hid (partV ⟨k, vol, dst, size, pl, count, data⟩ = .iface 38 (.agg #[.int .i64 pl, .int .i64 count])) := Lib.hid (by subst h6; rfl)
    subst h6
    clear h1 h3 h4 h5
    have a1 := fun T W => no_int (t := 38) (by decide) (.agg #[.int .i64 pl, .int .i64 count]) T W
    have a2 := fun T W => as_row (.agg #[.int .i64 pl, .int .i64 count]) T W
    have a3 := fun T W => no_space (t := 38) (by decide) (.agg #[.int .i64 pl, .int .i64 count]) T W
    have a4 := fun T W => no_fork (t := 38) (by decide) (.agg #[.int .i64 pl, .int .i64 count]) T W
    go_enter Try.func4, Try.ntmps4
    go_wp2_with fail
    refine CM.mono ?_
    rintro e w1 ⟨rfl, hb1⟩
    have HB1 := Lib.hid (bthen HB0.out hb1)
    have hbx1 := (hb1.block w.heap.size (by simp)).trans HBX0.out
    have HBX1 := Lib.hid hbx1
    have c0 : w1.cell? ⟨w.heap.size, 0, none⟩ = some (.int .i64 6) := cellIs hbx1 rfl
    have c1 : w1.cell? ⟨w.heap.size, 1, none⟩ = some (.int .u64 (vol : Int)) := cellIs hbx1 rfl
    have c2 : w1.cell? ⟨w.heap.size, 2, none⟩ = some (.int .u64 (dst : Int)) := cellIs hbx1 rfl
    have c3 : w1.cell? ⟨w.heap.size, 3, none⟩ = some (.int .i64 size) := cellIs hbx1 rfl
    have c4 : w1.cell? ⟨w.heap.size, 4, none⟩ = some (.int .i64 pl) := cellIs hbx1 rfl
    have c5 : w1.cell? ⟨w.heap.size, 5, none⟩ = some (.int .i64 count) := cellIs hbx1 rfl
    have c6 : w1.cell? ⟨w.heap.size, 6, none⟩ = some (.slice ao data.length cap) := cellIs hbx1 rfl
    have hlt1 : w.heap.size < w1.heap.size := (Array.getElem?_eq_some_iff.1 hbx1).1
    clear hb1 hbx1 CM
    go_wp2_with fail
    refine (CP.out w1).mono ?_
    rintro e w2 ⟨rfl, hb2⟩
    have HB2 := Lib.hid (bthen HB1.out hb2)
    have hbx2 := (hb2.block w.heap.size hlt1).trans HBX1.out
    clear c0 c1 c2 c3 c4 c5 c6 hlt1
    have c0 : w2.cell? ⟨w.heap.size, 0, none⟩ = some (.int .i64 6) := cellIs hbx2 rfl
    have c1 : w2.cell? ⟨w.heap.size, 1, none⟩ = some (.int .u64 (vol : Int)) := cellIs hbx2 rfl
    have c2 : w2.cell? ⟨w.heap.size, 2, none⟩ = some (.int .u64 (dst : Int)) := cellIs hbx2 rfl
    have c3 : w2.cell? ⟨w.heap.size, 3, none⟩ = some (.int .i64 size) := cellIs hbx2 rfl
    have c4 : w2.cell? ⟨w.heap.size, 4, none⟩ = some (.int .i64 pl) := cellIs hbx2 rfl
    have c5 : w2.cell? ⟨w.heap.size, 5, none⟩ = some (.int .i64 count) := cellIs hbx2 rfl
    have c6 : w2.cell? ⟨w.heap.size, 6, none⟩ = some (.slice ao data.length cap) := cellIs hbx2 rfl
    have hlt2 : w.heap.size < w2.heap.size := (Array.getElem?_eq_some_iff.1 hbx2).1
    have hl3 : w.heap.size < w2.heap.size + 1 := by omega
    have hl4 : w.heap.size < w2.heap.size + 1 + 1 := by omega
    have hn3 : ¬ (w.heap.size = w2.heap.size) := by omega
    have hn4 : ¬ (w.heap.size = w2.heap.size + 1) := by omega
    have hn5 : ¬ (w.heap.size = w2.heap.size + 1 + 1) := by omega
    clear hb2 hbx2
    rw [HPV.out]
    go_wp2_with fail
    refine (CK _).mono ?_
    rintro e w3 ⟨rfl, hb3⟩
    have HB3 := Lib.hid (HB2.out.trans (((balloc (balloc (balloc (Below.refl _ w2) _) _) _).trans (hb3.mono (by simp; omega))).mono HB2.out.size))
    clear hb3
    go_wp2_with fail
    go_ret
    exact ⟨rfl, HB3.out⟩
  by_cases h9 : k = 9
  · have HPV : Hid (partV ⟨k, vol, dst, size, pl, count, data⟩ = .iface 38 (.agg #[.int .i64 pl, .int .i64 count])) := Lib.hid (by subst h9; rfl)
    subst h9
    clear h1 h3 h4 h5 h6
    have a1 := fun T W => no_int (t := 38) (by decide) (.agg #[.int .i64 pl, .int .i64 count]) T W
    have a2 := fun T W => as_row (.agg #[.int .i64 pl, .int .i64 count]) T W
    have a3 := fun T W => no_space (t := 38) (by decide) (.agg #[.int .i64 pl, .int .i64 count]) T W
    have a4 := fun T W => no_fork (t := 38) (by decide) (.agg #[.int .i64 pl, .int .i64 count]) T W
    go_enter Try.func4, Try.ntmps4
    go_wp2_with fail
    refine CM.mono ?_
    rintro e w1 ⟨rfl, hb1⟩
    have HB1 := Lib.hid (bthen HB0.out hb1)
    have hbx1 := (hb1.block w.heap.size (by simp)).trans HBX0.out
    have HBX1 := Lib.hid hbx1
    have c0 : w1.cell? ⟨w.heap.size, 0, none⟩ = some (.int .i64 9) := cellIs hbx1 rfl
    have c1 : w1.cell? ⟨w.heap.size, 1, none⟩ = some (.int .u64 (vol : Int)) := cellIs hbx1 rfl
    have c2 : w1.cell? ⟨w.heap.size, 2, none⟩ = some (.int .u64 (dst : Int)) := cellIs hbx1 rfl
    have c3 : w1.cell? ⟨w.heap.size, 3, none⟩ = some (.int .i64 size) := cellIs hbx1 rfl
    have c4 : w1.cell? ⟨w.heap.size, 4, none⟩ = some (.int .i64 pl) := cellIs hbx1 rfl
    have c5 : w1.cell? ⟨w.heap.size, 5, none⟩ = some (.int .i64 count) := cellIs hbx1 rfl
    have c6 : w1.cell? ⟨w.heap.size, 6, none⟩ = some (.slice ao data.length cap) := cellIs hbx1 rfl
    have hlt1 : w.heap.size < w1.heap.size := (Array.getElem?_eq_some_iff.1 hbx1).1
    clear hb1 hbx1 CM
    go_wp2_with fail
    refine (CP.out w1).mono ?_
    rintro e w2 ⟨rfl, hb2⟩
    have HB2 := Lib.hid (bthen HB1.out hb2)
    have hbx2 := (hb2.block w.heap.size hlt1).trans HBX1.out
    clear c0 c1 c2 c3 c4 c5 c6 hlt1
    have c0 : w2.cell? ⟨w.heap.size, 0, none⟩ = some (.int .i64 9) := cellIs hbx2 rfl
    have c1 : w2.cell? ⟨w.heap.size, 1, none⟩ = some (.int .u64 (vol : Int)) := cellIs hbx2 rfl
    have c2 : w2.cell? ⟨w.heap.size, 2, none⟩ = some (.int .u64 (dst : Int)) := cellIs hbx2 rfl
    have c3 : w2.cell? ⟨w.heap.size, 3, none⟩ = some (.int .i64 size) := cellIs hbx2 rfl
    have c4 : w2.cell? ⟨w.heap.size, 4, none⟩ = some (.int .i64 pl) := cellIs hbx2 rfl
    have c5 : w2.cell? ⟨w.heap.size, 5, none⟩ = some (.int .i64 count) := cellIs hbx2 rfl
    have c6 : w2.cell? ⟨w.heap.size, 6, none⟩ = some (.slice ao data.length cap) := cellIs hbx2 rfl
    have hlt2 : w.heap.size < w2.heap.size := (Array.getElem?_eq_some_iff.1 hbx2).1
    have hl3 : w.heap.size < w2.heap.size + 1 := by omega
    have hl4 : w.heap.size < w2.heap.size + 1 + 1 := by omega
    have hn3 : ¬ (w.heap.size = w2.heap.size) := by omega
    have hn4 : ¬ (w.heap.size = w2.heap.size + 1) := by omega
    have hn5 : ¬ (w.heap.size = w2.heap.size + 1 + 1) := by omega
    clear hb2 hbx2
    rw [HPV.out]
    go_wp2_with fail
    refine (CK _).mono ?_
    rintro e w3 ⟨rfl, hb3⟩
    have HB3 := Lib.hid (HB2.out.trans (((balloc (balloc (balloc (Below.refl _ w2) _) _) _).trans (hb3.mono (by simp; omega))).mono HB2.out.size))
    clear hb3
    go_wp2_with fail
    go_ret
    exact ⟨rfl, HB3.out⟩
  by_cases h7 : k = 7
  · have HPV : Hid (partV ⟨k, vol, dst, size, pl, count, data⟩ = .iface 40 (.agg #[.int .i64 pl, .int .i64 count])) := Lib.hid (by subst h7; rfl)
    subst h7
    clear h1 h3 h4 h5 h6 h9
    have a1 := fun T W => no_int (t := 40) (by decide) (.agg #[.int .i64 pl, .int .i64 count]) T W
    have a2 := fun T W => no_row (t := 40) (by decide) (.agg #[.int .i64 pl, .int .i64 count]) T W
    have a3 := fun T W => as_space (.agg #[.int .i64 pl, .int .i64 count]) T W
    have a4 := fun T W => no_fork (t := 40) (by decide) (.agg #[.int .i64 pl, .int .i64 count]) T W
    go_enter Try.func4, Try.ntmps4
    go_wp2_with fail
    refine CM.mono ?_
    rintro e w1 ⟨rfl, hb1⟩
    have HB1 := Lib.hid (bthen HB0.out hb1)
    have hbx1 := (hb1.block w.heap.size (by simp)).trans HBX0.out
    have HBX1 := Lib.hid hbx1
    have c0 : w1.cell? ⟨w.heap.size, 0, none⟩ = some (.int .i64 7) := cellIs hbx1 rfl
    have c1 : w1.cell? ⟨w.heap.size, 1, none⟩ = some (.int .u64 (vol : Int)) := cellIs hbx1 rfl
    have c2 : w1.cell? ⟨w.heap.size, 2, none⟩ = some (.int .u64 (dst : Int)) := cellIs hbx1 rfl
    have c3 : w1.cell? ⟨w.heap.size, 3, none⟩ = some (.int .i64 size) := cellIs hbx1 rfl
    have c4 : w1.cell? ⟨w.heap.size, 4, none⟩ = some (.int .i64 pl) := cellIs hbx1 rfl
    have c5 : w1.cell? ⟨w.heap.size, 5, none⟩ = some (.int .i64 count) := cellIs hbx1 rfl
    have c6 : w1.cell? ⟨w.heap.size, 6, none⟩ = some (.slice ao data.length cap) := cellIs hbx1 rfl
    have hlt1 : w.heap.size < w1.heap.size := (Array.getElem?_eq_some_iff.1 hbx1).1
    clear hb1 hbx1 CM
    go_wp2_with fail
    refine (CP.out w1).mono ?_
    rintro e w2 ⟨rfl, hb2⟩
    have HB2 := Lib.hid (bthen HB1.out hb2)
    have hbx2 := (hb2.block w.heap.size hlt1).trans HBX1.out
    clear c0 c1 c2 c3 c4 c5 c6 hlt1
    have c0 : w2.cell? ⟨w.heap.size, 0, none⟩ = some (.int .i64 7) := cellIs hbx2 rfl
    have c1 : w2.cell? ⟨w.heap.size, 1, none⟩ = some (.int .u64 (vol : Int)) := cellIs hbx2 rfl
    have c2 : w2.cell? ⟨w.heap.size, 2, none⟩ = some (.int .u64 (dst : Int)) := cellIs hbx2 rfl
    have c3 : w2.cell? ⟨w.heap.size, 3, none⟩ = some (.int .i64 size) := cellIs hbx2 rfl
    have c4 : w2.cell? ⟨w.heap.size, 4, none⟩ = some (.int .i64 pl) := cellIs hbx2 rfl
    have c5 : w2.cell? ⟨w.heap.size, 5, none⟩ = some (.int .i64 count) := cellIs hbx2 rfl
    have c6 : w2.cell? ⟨w.heap.size, 6, none⟩ = some (.slice ao data.length cap) := cellIs hbx2 rfl
    have hlt2 : w.heap.size < w2.heap.size := (Array.getElem?_eq_some_iff.1 hbx2).1
    have hl3 : w.heap.size < w2.heap.size + 1 := by omega
    have hl4 : w.heap.size < w2.heap.size + 1 + 1 := by omega
    have hn3 : ¬ (w.heap.size = w2.heap.size) := by omega
    have hn4 : ¬ (w.heap.size = w2.heap.size + 1) := by omega
    have hn5 : ¬ (w.heap.size = w2.heap.size + 1 + 1) := by omega
    clear hb2 hbx2
    rw [HPV.out]
    go_wp2_with fail
    refine (CK _).mono ?_
    rintro e w3 ⟨rfl, hb3⟩
    have HB3 := Lib.hid (HB2.out.trans (((balloc (balloc (balloc (Below.refl _ w2) _) _) _).trans (hb3.mono (by simp; omega))).mono HB2.out.size))
    clear hb3
    go_wp2_with fail
    go_ret
    exact ⟨rfl, HB3.out⟩
  have HPV : Hid (partV ⟨k, vol, dst, size, pl, count, data⟩ = .nilIface) := Lib.hid (by
    unfold partV
    rw [if_neg (fun h => by rcases h with h | h; exact h1 h; exact h3 h), if_neg h4, if_neg h5, if_neg (fun h => by rcases h with h | h; exact h6 h; exact h9 h), if_neg h7])
  have g1 := bneI h1
  have g3 := bneI h3
  have g4 := bneI h4
  have g5 := bneI h5
  have g6 := bneI h6
  have g9 := bneI h9
  have g7 := bneI h7
  have a1 := fun T W => nil_int T W
  have a2 := fun T W => nil_row T W
  have a3 := fun T W => nil_space T W
  have a4 := fun T W => nil_fork T W
  clear h1 h3 h4 h5 h6 h9 h7
  go_enter Try.func4, Try.ntmps4
  go_wp2_with fail
  refine CM.mono ?_
  rintro e w1 ⟨rfl, hb1⟩
  have HB1 := Lib.hid (bthen HB0.out hb1)
  have hbx1 := (hb1.block w.heap.size (by simp)).trans HBX0.out
  have HBX1 := Lib.hid hbx1
  have c0 : w1.cell? ⟨w.heap.size, 0, none⟩ = some (.int .i64 k) := cellIs hbx1 rfl
  have c1 : w1.cell? ⟨w.heap.size, 1, none⟩ = some (.int .u64 (vol : Int)) := cellIs hbx1 rfl
  have c2 : w1.cell? ⟨w.heap.size, 2, none⟩ = some (.int .u64 (dst : Int)) := cellIs hbx1 rfl
  have c3 : w1.cell? ⟨w.heap.size, 3, none⟩ = some (.int .i64 size) := cellIs hbx1 rfl
  have c4 : w1.cell? ⟨w.heap.size, 4, none⟩ = some (.int .i64 pl) := cellIs hbx1 rfl
  have c5 : w1.cell? ⟨w.heap.size, 5, none⟩ = some (.int .i64 count) := cellIs hbx1 rfl
  have c6 : w1.cell? ⟨w.heap.size, 6, none⟩ = some (.slice ao data.length cap) := cellIs hbx1 rfl
  have hlt1 : w.heap.size < w1.heap.size := (Array.getElem?_eq_some_iff.1 hbx1).1
  clear hb1 hbx1 CM
  go_wp2_with fail
  refine (CP.out w1).mono ?_
  rintro e w2 ⟨rfl, hb2⟩
  have HB2 := Lib.hid (bthen HB1.out hb2)
  have hbx2 := (hb2.block w.heap.size hlt1).trans HBX1.out
  clear c0 c1 c2 c3 c4 c5 c6 hlt1
  have c0 : w2.cell? ⟨w.heap.size, 0, none⟩ = some (.int .i64 k) := cellIs hbx2 rfl
  have c1 : w2.cell? ⟨w.heap.size, 1, none⟩ = some (.int .u64 (vol : Int)) := cellIs hbx2 rfl
  have c2 : w2.cell? ⟨w.heap.size, 2, none⟩ = some (.int .u64 (dst : Int)) := cellIs hbx2 rfl
  have c3 : w2.cell? ⟨w.heap.size, 3, none⟩ = some (.int .i64 size) := cellIs hbx2 rfl
  have c4 : w2.cell? ⟨w.heap.size, 4, none⟩ = some (.int .i64 pl) := cellIs hbx2 rfl
  have c5 : w2.cell? ⟨w.heap.size, 5, none⟩ = some (.int .i64 count) := cellIs hbx2 rfl
  have c6 : w2.cell? ⟨w.heap.size, 6, none⟩ = some (.slice ao data.length cap) := cellIs hbx2 rfl
  have hlt2 : w.heap.size < w2.heap.size := (Array.getElem?_eq_some_iff.1 hbx2).1
  have hl3 : w.heap.size < w2.heap.size + 1 := by omega
  have hl4 : w.heap.size < w2.heap.size + 1 + 1 := by omega
  have hn3 : ¬ (w.heap.size = w2.heap.size) := by omega
  have hn4 : ¬ (w.heap.size = w2.heap.size + 1) := by omega
  have hn5 : ¬ (w.heap.size = w2.heap.size + 1 + 1) := by omega
  clear hb2 hbx2
  rw [HPV.out]
  go_wp2_with fail
  refine (CK _).mono ?_
  rintro e w3 ⟨rfl, hb3⟩
  have HB3 := Lib.hid (HB2.out.trans (((balloc (balloc (balloc (Below.refl _ w2) _) _) _).trans (hb3.mono (by simp; omega))).mono HB2.out.size))
  clear hb3
  go_wp2_with fail
  go_ret
  exact ⟨rfl, HB3.out⟩
end Go.Proofs.Ytgkelbdgdhkeoaa
