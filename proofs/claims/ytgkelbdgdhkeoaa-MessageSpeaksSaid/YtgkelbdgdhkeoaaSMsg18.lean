/- The reference's blob, walked. -/
import Derived.Test.YtgkelbdgdhkeoaaSMsg17
import Derived.Test.YtgkelbdgdhkeoaaSWA
namespace Go.Proofs.Ytgkelbdgdhkeoaa
open Go.RowKit
set_option linter.unusedVariables false
set_option linter.unusedSimpArgs false
open Wire Cmd
set_option maxRecDepth 100000 in
set_option maxHeartbeats 3200000 in
theorem blob19_any (bs : List UInt8) (v : Value) (w : World) (hd : Rd w 1 v bs.length (bV bs)) (hl : bs.length ≤ 1000000) : Calls Try.prog 125 #[v] w fun e w' => ∃ v', e = .returned v' ∧ w'.ownsRow w.heap.size 5 1 v' (4 + bs.length) (bV (low bs.length 4 ++ bs)) ∧ Below w.heap.size w w' := by
 have HD := Lib.hid hd
 have CL : Hid (Calls Try.prog 122 #[.int .u64 (bs.length : Int), .int .i64 4] w fun e w' => ∃ v', e = .returned v' ∧ w'.ownsRow w.heap.size 5 1 v' 4 (bV (low bs.length 4)) ∧ Below w.heap.size w w') := Lib.hid (rlow_any bs.length 4 w (by omega) (by omega))
 have hwr : IntKind.u64.wrap (bs.length : Int) = (bs.length : Int) := by rw [wrap_u64_nat, Nat.mod_eq_of_lt (by omega)]
 obtain ⟨B, hB⟩ : ∃ B, w.heap.size = B := ⟨_, rfl⟩
 have HBE := Lib.hid hB
 rw [hB] at CL
 rw [hB]
 clear hB
 obtain ⟨ao, cap, rfl, _⟩ := hd
 obtain ⟨L, hL⟩ : ∃ L, bs.length = L := ⟨_, rfl⟩
 have HL := Lib.hid hL
 rw [hL] at CL hwr hl ⊢
 rw [hL] at HD
 clear hL
 go_enter Try.func125, Try.ntmps125
 go_wp2_with fail
 refine CL.out.mono ?_
 rintro e w1 ⟨v1, rfl, ho1, hb1⟩
 have hr1 := HD.out.below (by rw [HBE.out]; exact hb1)
 have HB1 := Lib.hid hb1
 have hsz : B ≤ w1.heap.size := by rw [← HBE.out]; exact (show Below w.heap.size w w1 by rw [HBE.out]; exact hb1).size
 clear hb1
 go_wp2_with (at_builtin; go_must (refine wpList_apps rfl _ _ 24 rfl B 5 _ 1 1 Try.underlying24 infoByte rfl (by decide) (by decide) _ 4 _ rfl ho1 _ L _ rfl hr1 (bV_one _) (by omega) hsz ?_); intro v5 w5 ho5 hb5 hg5 hs5 hn5)
 rw [← bV_app] at ho5
 go_ret
 exact ⟨v5, rfl, ho5, HB1.out.trans hb5⟩
end Go.Proofs.Ytgkelbdgdhkeoaa
