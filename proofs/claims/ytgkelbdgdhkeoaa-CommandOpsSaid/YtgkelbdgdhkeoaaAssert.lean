/- Two-valued type assertions to a type that is no interface. -/
import Derived.Test.YtgkelbdgdhkeoaaBytes
namespace Go.Proofs.Ytgkelbdgdhkeoaa
open Go.RowKit
set_option linter.unusedVariables false
set_option linter.unusedSimpArgs false

def isIfaceD : TypeDesc → Bool
  | .interface _ => true
  | _ => false
section
variable {P : Program}
theorem run_assert_hit {t xT : TypeId} {d : TypeDesc} (hu : P.underlying t = some d) (hd : isIfaceD d = false) (v : Value) (w : World) : (Instr.typeAssert (.iface t v) xT t true).run P w = .ok (.tuple #[v, .bool true]) w := by
  unfold Instr.typeAssert
  rw [Sem.run_bind, run_underlying hu w]
  cases d <;> simp_all [isIfaceD]
theorem run_assert_miss {t t' xT : TypeId} {d : TypeDesc} {z : Value} (hu : P.underlying t = some d) (hd : isIfaceD d = false) (hne : t' ≠ t) (hz : ∀ w, (zeroValue t).run P w = .ok z w) (v : Value) (w : World) : (Instr.typeAssert (.iface t' v) xT t true).run P w = .ok (.tuple #[z, .bool false]) w := by
  unfold Instr.typeAssert
  rw [Sem.run_bind, run_underlying hu w]
  cases d <;> simp_all [isIfaceD]
theorem run_assert_nil {t xT : TypeId} {d : TypeDesc} {z : Value} (hu : P.underlying t = some d) (hd : isIfaceD d = false) (hz : ∀ w, (zeroValue t).run P w = .ok z w) (w : World) : (Instr.typeAssert .nilIface xT t true).run P w = .ok (.tuple #[z, .bool false]) w := by
  unfold Instr.typeAssert
  rw [Sem.run_bind, run_underlying hu w]
  cases d <;> simp_all [isIfaceD]
end
theorem zeroU64 (w : World) : (zeroValue 23).run Try.prog w = .ok (.int .u64 0) w := by kernel_rfl
theorem zeroBool (w : World) : (zeroValue 4).run Try.prog w = .ok (.bool false) w := by kernel_rfl
theorem zeroBytes (w : World) : (zeroValue 24).run Try.prog w = .ok (.slice none 0 0) w := by kernel_rfl
theorem zeroInt (w : World) : (zeroValue 3).run Try.prog w = .ok (.int .i64 0) w := by kernel_rfl
theorem zero_some {P : Program} {t : TypeId} (h : (match P.info? t with | some i => i.zero.isSome | none => false) = true) : ∃ z, ∀ w, (zeroValue t).run P w = .ok z w := by
  cases hq : P.info? t with
  | none => simp [hq] at h
  | some i =>
    rw [hq] at h
    obtain ⟨z, hz⟩ := Option.isSome_iff_exists.1 h
    exact ⟨z, fun w => by simp [zeroValue, typeInfo, hq, hz]⟩
theorem zeroBlock : ∃ z, ∀ w, (zeroValue 77).run Try.prog w = .ok z w := zero_some (by kernel_rfl)
end Go.Proofs.Ytgkelbdgdhkeoaa
