/- Several texts in one: Opens OpensV OpensO OpensA. -/
import Derived.Lib.SmallJoins
import Derived.Test.YtgkelbdgdhkeoaaGreatPFrame
import Derived.Test.YtgkelbdgdhkeoaaGreatPWA
import Derived.Deep.Slices
import Derived.OpenShut
import Derived.Test.YtgkelbdgdhkeoaaGreatPWB
import Derived.Test.YtgkelbdgdhkeoaaGreatPCA
import Derived.Test.YtgkelbdgdhkeoaaGreatPCB
namespace Go.Proofs.YtgkelbdgdhkeoaaGreat
open Go.ChangeShapes Go.WideShapes Go.ChangeAt Go.RowKit
set_option linter.unusedVariables false
end Go.Proofs.YtgkelbdgdhkeoaaGreat
/- How an argument of the reference's values that can be read looks. -/
namespace Go.Proofs.YtgkelbdgdhkeoaaGreat
open Go.ChangeShapes Go.WideShapes Go.ChangeAt Go.RowKit Go.Deep
set_option linter.unusedVariables false
open Wire
def byteOf : Value → UInt8
 | .int _ n => UInt8.ofNat n.toNat
 | _ => 0
theorem wf_u8 {n : Int} (h : (Lit.int .u8 n).wf = true) : 0 ≤ n ∧ n ≤ 255 := by
 simpa [Lit.wf, IntKind.min, IntKind.max, IntKind.signed, IntKind.bits] using h
section
variable {H : Type} {enc : TypeId × Value → H} {w : World} {base : Nat} {held : Bool}
theorem bytes_of_trod {fuel : Nat} {v : Value} {x : DataW H × List MemPlace} (hf : DataW.trod enc Tryz.prog w base (fun _ => true) held fuel 34 [v] = some x) : ∃ n bs, Rd w 1 v n (bV bs) := by
 rcases open_ints Tryz.underlying34 Tryz.underlying5 (by kernel_rfl) hf with ⟨hcs, _⟩ | ⟨x, len, cap, zs, hcs, _, hl, hm, hz, _, hcell, hwz⟩
 ·obtain rfl : v = .slice none 0 0 := by simpa using hcs
  exact ⟨0, [], none, 0, rfl, by simp [bV], by simp, ⟨fun _ => rfl, by simp, by simp⟩, fun j u hj => by simp [bV] at hj⟩
 ·obtain rfl : v = .slice (some x) len cap := by simpa using hcs
  replace hz : zs.length = cap := by simpa using hz
  refine ⟨len, (zs.take len).map fun z => UInt8.ofNat z.toNat, some x, cap, rfl, ?_, by omega, ⟨(fun h => by cases h), hl, hm⟩, fun j u hj => ?_⟩
  ·rw [bV_len, List.length_map, List.length_take]; omega
  ·have hjl : j < len := by
    have := (List.getElem?_eq_some_iff.1 hj).1
    rw [bV_len, List.length_map, List.length_take] at this
    omega
   obtain ⟨b, off, spot⟩ := x
   have hc := hcell j (by omega)
   have hspot : spot = none := by
    have h0 := hcell 0 (by omega)
    simpa [Addr.add] using World.cell?_spot h0
   subst hspot
   rw [Addr.add_lit] at hc
   refine ⟨b, off, rfl, World.block_lt_of_cell? w _ hc, ?_⟩
   rw [hc]
   have hzj : zs[j]? = some zs[j] := List.getElem?_eq_getElem (by omega)
   have hr := wf_u8 (hwz zs[j] (List.getElem_mem _))
   simp only [bV, List.getElem?_map, List.getElem?_take, hjl, if_true, hzj, Option.map_some] at hj
   rw [← hj]
   simp only [List.getD_eq_getElem?_getD, hzj, Option.getD_some, Option.some.injEq, Value.int.injEq, true_and]
   simp
   omega
theorem cellsBs : Tryz.prog.cellsOf 34 = 1 := by kernel_rfl
end
end Go.Proofs.YtgkelbdgdhkeoaaGreat
/- How an argument that is an operation, or an answer, looks. -/
namespace Go.Proofs.YtgkelbdgdhkeoaaGreat
open Go.ChangeShapes Go.WideShapes Go.ChangeAt Go.RowKit Go.Deep
set_option linter.unusedVariables false
open Wire Cmd
section
variable {H : Type} {enc : TypeId × Value → H} {w : World} {base : Nat} {held : Bool}
end
end Go.Proofs.YtgkelbdgdhkeoaaGreat
/- How an argument that is an answer looks. -/
namespace Go.Proofs.YtgkelbdgdhkeoaaGreat
open Go.ChangeShapes Go.WideShapes Go.ChangeAt Go.RowKit Go.Deep
set_option linter.unusedVariables false
open Wire Cmd
section
variable {H : Type} {enc : TypeId × Value → H} {w : World} {base : Nat} {held : Bool}
end
end Go.Proofs.YtgkelbdgdhkeoaaGreat
