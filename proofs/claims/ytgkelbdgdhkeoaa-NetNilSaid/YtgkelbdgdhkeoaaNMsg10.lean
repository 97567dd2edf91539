/- number, bytes; kept, walked. -/
import Derived.Test.YtgkelbdgdhkeoaaNMsg9
namespace Go.Proofs.Ytgkelbdgdhkeoaa
open Go.RowKit
set_option linter.unusedVariables false
set_option linter.unusedSimpArgs false
open Wire Cmd
set_option maxRecDepth 100000 in
set_option maxHeartbeats 1600000 in
theorem number_any (n : Int) (w : World) : Calls Try.prog 116 #[.iface 23 (.int .u64 n)] w fun e w' => e = .returned (.int .u64 n) ∧ w = w' := by
 have asU : ∀ (v : Value) (T : TypeId) (W : World), (Instr.typeAssert (.iface 23 v) T 23 true).run Try.prog W = .ok (.tuple #[v, .bool true]) W := fun v T W => run_assert_hit Try.underlying23 rfl v W
 go_enter Try.func116, Try.ntmps116
 go_wp2_with fail
 go_ret
 exact ⟨rfl, rfl⟩
set_option maxRecDepth 100000 in
set_option maxHeartbeats 1600000 in
theorem bytesV_any (ao : Option Addr) (n cap : Nat) (w : World) : Calls Try.prog 149 #[.iface 24 (.slice ao n cap)] w fun e w' => e = .returned (.slice ao n cap) ∧ w = w' := by
 have asB : ∀ (v : Value) (T : TypeId) (W : World), (Instr.typeAssert (.iface 24 v) T 24 true).run Try.prog W = .ok (.tuple #[v, .bool true]) W := fun v T W => run_assert_hit Try.underlying24 rfl v W
 go_enter Try.func149, Try.ntmps149
 go_wp2_with fail
 go_ret
 exact ⟨rfl, rfl⟩
end Go.Proofs.Ytgkelbdgdhkeoaa
