/- number, bytes; kept, walked. -/
import Derived.Test.YtgkelbdgdhkeoaaGreatPMsg9
namespace Go.Proofs.YtgkelbdgdhkeoaaGreat
open Go.RowKit
set_option linter.unusedVariables false
set_option linter.unusedSimpArgs false
open Wire Cmd
set_option maxRecDepth 100000 in
set_option maxHeartbeats 1600000 in
theorem number_any (n : Int) (w : World) : Calls Tryz.prog 37 #[.iface 41 (.int .u64 n)] w fun e w' => e = .returned (.int .u64 n) ∧ w = w' := by
 have asU : ∀ (v : Value) (T : TypeId) (W : World), (Instr.typeAssert (.iface 41 v) T 41 true).run Tryz.prog W = .ok (.tuple #[v, .bool true]) W := fun v T W => run_assert_hit Tryz.underlying41 rfl v W
 go_enter Tryz.func37, Tryz.ntmps37
 go_wp2_with fail
 go_ret
 exact ⟨rfl, rfl⟩
set_option maxRecDepth 100000 in
set_option maxHeartbeats 1600000 in
theorem bytesV_any (ao : Option Addr) (n cap : Nat) (w : World) : Calls Tryz.prog 60 #[.iface 34 (.slice ao n cap)] w fun e w' => e = .returned (.slice ao n cap) ∧ w = w' := by
 have asB : ∀ (v : Value) (T : TypeId) (W : World), (Instr.typeAssert (.iface 34 v) T 34 true).run Tryz.prog W = .ok (.tuple #[v, .bool true]) W := fun v T W => run_assert_hit Tryz.underlying34 rfl v W
 go_enter Tryz.func60, Tryz.ntmps60
 go_wp2_with fail
 go_ret
 exact ⟨rfl, rfl⟩
end Go.Proofs.YtgkelbdgdhkeoaaGreat
