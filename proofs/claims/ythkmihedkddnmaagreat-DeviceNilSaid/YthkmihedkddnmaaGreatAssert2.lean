/- Type assertions, at the types that command.Part answers with. -/
import Derived.Test.YthkmihedkddnmaaGreatWA
namespace Go.Proofs.YthkmihedkddnmaaGreat
open Go.RowKit
set_option linter.unusedVariables false
set_option linter.unusedSimpArgs false

theorem zeroRow (w : World) : (zeroValue 136).run Tryz.prog w = .ok (.agg #[.int .i64 0, .int .i64 0]) w := by kernel_rfl
theorem zeroSpace (w : World) : (zeroValue 137).run Tryz.prog w = .ok (.agg #[.int .i64 0, .int .i64 0]) w := by kernel_rfl
theorem zeroFork (w : World) : (zeroValue 134).run Tryz.prog w = .ok (.agg #[.int .u64 0, .int .u64 0]) w := by kernel_rfl

/-- What the four assertions answer. -/
theorem as_int (z : Value) (T : TypeId) (w : World) : (Instr.typeAssert (.iface 3 z) T 3 true).run Tryz.prog w = .ok (.tuple #[z, .bool true]) w := run_assert_hit Tryz.underlying3 rfl z w
theorem as_row (z : Value) (T : TypeId) (w : World) : (Instr.typeAssert (.iface 136 z) T 136 true).run Tryz.prog w = .ok (.tuple #[z, .bool true]) w := run_assert_hit Tryz.underlying136 rfl z w
theorem as_space (z : Value) (T : TypeId) (w : World) : (Instr.typeAssert (.iface 137 z) T 137 true).run Tryz.prog w = .ok (.tuple #[z, .bool true]) w := run_assert_hit Tryz.underlying137 rfl z w
theorem as_fork (z : Value) (T : TypeId) (w : World) : (Instr.typeAssert (.iface 134 z) T 134 true).run Tryz.prog w = .ok (.tuple #[z, .bool true]) w := run_assert_hit Tryz.underlying134 rfl z w
theorem no_int {t : TypeId} (h : t ≠ 3) (z : Value) (T : TypeId) (w : World) : (Instr.typeAssert (.iface t z) T 3 true).run Tryz.prog w = .ok (.tuple #[.int .i64 0, .bool false]) w := run_assert_miss Tryz.underlying3 rfl h zeroInt z w
theorem no_row {t : TypeId} (h : t ≠ 136) (z : Value) (T : TypeId) (w : World) : (Instr.typeAssert (.iface t z) T 136 true).run Tryz.prog w = .ok (.tuple #[.agg #[.int .i64 0, .int .i64 0], .bool false]) w := run_assert_miss Tryz.underlying136 rfl h zeroRow z w
theorem no_space {t : TypeId} (h : t ≠ 137) (z : Value) (T : TypeId) (w : World) : (Instr.typeAssert (.iface t z) T 137 true).run Tryz.prog w = .ok (.tuple #[.agg #[.int .i64 0, .int .i64 0], .bool false]) w := run_assert_miss Tryz.underlying137 rfl h zeroSpace z w
theorem no_fork {t : TypeId} (h : t ≠ 134) (z : Value) (T : TypeId) (w : World) : (Instr.typeAssert (.iface t z) T 134 true).run Tryz.prog w = .ok (.tuple #[.agg #[.int .u64 0, .int .u64 0], .bool false]) w := run_assert_miss Tryz.underlying134 rfl h zeroFork z w
theorem nil_int (T : TypeId) (w : World) : (Instr.typeAssert .nilIface T 3 true).run Tryz.prog w = .ok (.tuple #[.int .i64 0, .bool false]) w := run_assert_nil Tryz.underlying3 rfl zeroInt w
theorem nil_row (T : TypeId) (w : World) : (Instr.typeAssert .nilIface T 136 true).run Tryz.prog w = .ok (.tuple #[.agg #[.int .i64 0, .int .i64 0], .bool false]) w := run_assert_nil Tryz.underlying136 rfl zeroRow w
theorem nil_space (T : TypeId) (w : World) : (Instr.typeAssert .nilIface T 137 true).run Tryz.prog w = .ok (.tuple #[.agg #[.int .i64 0, .int .i64 0], .bool false]) w := run_assert_nil Tryz.underlying137 rfl zeroSpace w
theorem nil_fork (T : TypeId) (w : World) : (Instr.typeAssert .nilIface T 134 true).run Tryz.prog w = .ok (.tuple #[.agg #[.int .u64 0, .int .u64 0], .bool false]) w := run_assert_nil Tryz.underlying134 rfl zeroFork w

theorem run_assert_one {P : Program} {t xT : TypeId} {d : TypeDesc} (hu : P.underlying t = some d) (hd : isIfaceD d = false) (v : Value) (w : World) : (Instr.typeAssert (.iface t v) xT t false).run P w = .ok v w := by
  unfold Instr.typeAssert
  rw [Sem.run_bind, run_underlying hu w]
  cases d <;> simp_all [isIfaceD]
theorem is_int (z : Value) (T : TypeId) (w : World) : (Instr.typeAssert (.iface 3 z) T 3 false).run Tryz.prog w = .ok z w := run_assert_one Tryz.underlying3 rfl z w
theorem is_row (z : Value) (T : TypeId) (w : World) : (Instr.typeAssert (.iface 136 z) T 136 false).run Tryz.prog w = .ok z w := run_assert_one Tryz.underlying136 rfl z w
theorem is_space (z : Value) (T : TypeId) (w : World) : (Instr.typeAssert (.iface 137 z) T 137 false).run Tryz.prog w = .ok z w := run_assert_one Tryz.underlying137 rfl z w
theorem is_fork (z : Value) (T : TypeId) (w : World) : (Instr.typeAssert (.iface 134 z) T 134 false).run Tryz.prog w = .ok z w := run_assert_one Tryz.underlying134 rfl z w
end Go.Proofs.YthkmihedkddnmaaGreat
