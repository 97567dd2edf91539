/- Type assertions, at the types that command.Part answers with. -/
import Derived.Test.YthkmihedkddnmaaWA
namespace Go.Proofs.Ythkmihedkddnmaa
open Go.RowKit
set_option linter.unusedVariables false
set_option linter.unusedSimpArgs false

theorem zeroRow (w : World) : (zeroValue 74).run Try.prog w = .ok (.agg #[.int .i64 0, .int .i64 0]) w := by kernel_rfl
theorem zeroSpace (w : World) : (zeroValue 75).run Try.prog w = .ok (.agg #[.int .i64 0, .int .i64 0]) w := by kernel_rfl
theorem zeroFork (w : World) : (zeroValue 72).run Try.prog w = .ok (.agg #[.int .u64 0, .int .u64 0]) w := by kernel_rfl

/-- What the four assertions answer. -/
theorem as_int (z : Value) (T : TypeId) (w : World) : (Instr.typeAssert (.iface 3 z) T 3 true).run Try.prog w = .ok (.tuple #[z, .bool true]) w := run_assert_hit Try.underlying3 rfl z w
theorem as_row (z : Value) (T : TypeId) (w : World) : (Instr.typeAssert (.iface 74 z) T 74 true).run Try.prog w = .ok (.tuple #[z, .bool true]) w := run_assert_hit Try.underlying74 rfl z w
theorem as_space (z : Value) (T : TypeId) (w : World) : (Instr.typeAssert (.iface 75 z) T 75 true).run Try.prog w = .ok (.tuple #[z, .bool true]) w := run_assert_hit Try.underlying75 rfl z w
theorem as_fork (z : Value) (T : TypeId) (w : World) : (Instr.typeAssert (.iface 72 z) T 72 true).run Try.prog w = .ok (.tuple #[z, .bool true]) w := run_assert_hit Try.underlying72 rfl z w
theorem no_int {t : TypeId} (h : t ≠ 3) (z : Value) (T : TypeId) (w : World) : (Instr.typeAssert (.iface t z) T 3 true).run Try.prog w = .ok (.tuple #[.int .i64 0, .bool false]) w := run_assert_miss Try.underlying3 rfl h zeroInt z w
theorem no_row {t : TypeId} (h : t ≠ 74) (z : Value) (T : TypeId) (w : World) : (Instr.typeAssert (.iface t z) T 74 true).run Try.prog w = .ok (.tuple #[.agg #[.int .i64 0, .int .i64 0], .bool false]) w := run_assert_miss Try.underlying74 rfl h zeroRow z w
theorem no_space {t : TypeId} (h : t ≠ 75) (z : Value) (T : TypeId) (w : World) : (Instr.typeAssert (.iface t z) T 75 true).run Try.prog w = .ok (.tuple #[.agg #[.int .i64 0, .int .i64 0], .bool false]) w := run_assert_miss Try.underlying75 rfl h zeroSpace z w
theorem no_fork {t : TypeId} (h : t ≠ 72) (z : Value) (T : TypeId) (w : World) : (Instr.typeAssert (.iface t z) T 72 true).run Try.prog w = .ok (.tuple #[.agg #[.int .u64 0, .int .u64 0], .bool false]) w := run_assert_miss Try.underlying72 rfl h zeroFork z w
theorem nil_int (T : TypeId) (w : World) : (Instr.typeAssert .nilIface T 3 true).run Try.prog w = .ok (.tuple #[.int .i64 0, .bool false]) w := run_assert_nil Try.underlying3 rfl zeroInt w
theorem nil_row (T : TypeId) (w : World) : (Instr.typeAssert .nilIface T 74 true).run Try.prog w = .ok (.tuple #[.agg #[.int .i64 0, .int .i64 0], .bool false]) w := run_assert_nil Try.underlying74 rfl zeroRow w
theorem nil_space (T : TypeId) (w : World) : (Instr.typeAssert .nilIface T 75 true).run Try.prog w = .ok (.tuple #[.agg #[.int .i64 0, .int .i64 0], .bool false]) w := run_assert_nil Try.underlying75 rfl zeroSpace w
theorem nil_fork (T : TypeId) (w : World) : (Instr.typeAssert .nilIface T 72 true).run Try.prog w = .ok (.tuple #[.agg #[.int .u64 0, .int .u64 0], .bool false]) w := run_assert_nil Try.underlying72 rfl zeroFork w

theorem run_assert_one {P : Program} {t xT : TypeId} {d : TypeDesc} (hu : P.underlying t = some d) (hd : isIfaceD d = false) (v : Value) (w : World) : (Instr.typeAssert (.iface t v) xT t false).run P w = .ok v w := by
  unfold Instr.typeAssert
  rw [Sem.run_bind, run_underlying hu w]
  cases d <;> simp_all [isIfaceD]
theorem is_int (z : Value) (T : TypeId) (w : World) : (Instr.typeAssert (.iface 3 z) T 3 false).run Try.prog w = .ok z w := run_assert_one Try.underlying3 rfl z w
theorem is_row (z : Value) (T : TypeId) (w : World) : (Instr.typeAssert (.iface 74 z) T 74 false).run Try.prog w = .ok z w := run_assert_one Try.underlying74 rfl z w
theorem is_space (z : Value) (T : TypeId) (w : World) : (Instr.typeAssert (.iface 75 z) T 75 false).run Try.prog w = .ok z w := run_assert_one Try.underlying75 rfl z w
theorem is_fork (z : Value) (T : TypeId) (w : World) : (Instr.typeAssert (.iface 72 z) T 72 false).run Try.prog w = .ok z w := run_assert_one Try.underlying72 rfl z w
end Go.Proofs.Ythkmihedkddnmaa
