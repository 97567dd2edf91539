/-
  No cell of these rows narrows 'for every input' (looked for: loops, veiled, ifaces, maps, wideKeys, modest, calm, conditions, laid).
  DERIVED. THE GIVEN ROWS OF THIS SEAT. 5 by the template 'for every input the law returns true; each argument reads behind the call as it read before'; 0 by the template 'total and deterministic' (their statements: YtcdobdjemlaaaaaGreatTotals.lean).
  GIVEN WITH THE SEED: the statements are not yours to turn. If you find one false, say at which input.
  Laid BY PROGRAM, IN A SANDBOX (cutbox-rows.mjs): the forced cells as the released guide's own fill.sh prints them over the translation da1a2d7eed45fffd… (all of the seat's roots in one cut). By AI agents, Wed Nov 11 2026. No macro, syntax, notation, axiom, sorry.
-/
import Derived.Test.YtcdobdjemlaaaaaGreatChecked
import GoSem.Claim
import GoSem.ClaimJoined
import GoSem.ClaimMapViews
import Derived.JoinedTies
import Derived.KernelRfl
namespace Go.Proofs.YtcdobdjemlaaaaaGreat
/- THE CELL 'sum', in the pinned program and in every row, IS THE sha256 OF THE DUMP (.gsa) THAT YtcdobdjemlaaaaaGreatProg.lean LOADS. Nothing in Lean hashes anything: it is a label: what it is worth is what the hold of that sum in a sandbox is worth. -/
noncomputable def Tryz.pinned : Pinned := { name := "ytcdobdjemlaaaaagreat", sum := "da1a2d7eed45fffde7664ed8601190e196c3c6463612aa3def47c5a854acec26", checked := Tryz.checked }
namespace Rows
def none {H : Type} : Left H := { results := [], args := [] }

/-- 'voilelaw08.StoreNil': WHATEVER THE INPUT: true; the input reads as it did. -/
def storeNilSpec : ChangeSpec := { name := "storeNil", fn := fun _ => fun
  | [] => { results := [.lit (.bool true)], args := [] }
  | _ => none }
def storeNilRow : OpenClaim := { program := "ytcdobdjemlaaaaagreat", sum := "da1a2d7eed45fffde7664ed8601190e196c3c6463612aa3def47c5a854acec26", func := "voile/voilelaw08.StoreNil", spec := "storeNil", unfollowed := true, recurses := true, apart := false }
def StoreNilSaid : Prop := storeNilRow.holds Tryz.pinned (OpenSpec.ofChange storeNilSpec)

/-- ITS FALSE NEIGHBOUR: 'it returns false'. Refute it at one input. -/
def storeNilWrong : ChangeSpec := { name := "storeNil", fn := fun _ => fun
  | [] => { results := [.lit (.bool false)], args := [] }
  | _ => none }
def StoreNilWrongFalsely : Prop := storeNilRow.holds Tryz.pinned (OpenSpec.ofChange storeNilWrong)

/-- 'voilelaw09.TreeNil': WHATEVER THE INPUT: true; the input reads as it did. -/
def treeNilSpec : ChangeSpec := { name := "treeNil", fn := fun _ => fun
  | [] => { results := [.lit (.bool true)], args := [] }
  | _ => none }
def treeNilRow : OpenClaim := { program := "ytcdobdjemlaaaaagreat", sum := "da1a2d7eed45fffde7664ed8601190e196c3c6463612aa3def47c5a854acec26", func := "voile/voilelaw09.TreeNil", spec := "treeNil", inPlace := ["slices.overlaps[uint64]"], unfollowed := true, recurses := true, apart := false }
def TreeNilSaid : Prop := treeNilRow.holds Tryz.pinned (OpenSpec.ofChange treeNilSpec)

/-- ITS FALSE NEIGHBOUR: 'it returns false'. Refute it at one input. -/
def treeNilWrong : ChangeSpec := { name := "treeNil", fn := fun _ => fun
  | [] => { results := [.lit (.bool false)], args := [] }
  | _ => none }
def TreeNilWrongFalsely : Prop := treeNilRow.holds Tryz.pinned (OpenSpec.ofChange treeNilWrong)

/-- 'voilelaw09.TreeRefuses': WHATEVER THE INPUT: true; the input reads as it did. -/
def treeRefusesSpec : ChangeSpec := { name := "treeRefuses", fn := fun _ => fun
  | [d1, d2, d3] => { results := [.lit (.bool true)], args := [d1, d2, d3] }
  | _ => none }
def treeRefusesRow : OpenClaim := { program := "ytcdobdjemlaaaaagreat", sum := "da1a2d7eed45fffde7664ed8601190e196c3c6463612aa3def47c5a854acec26", func := "voile/voilelaw09.TreeRefuses", spec := "treeRefuses", inPlace := ["slices.overlaps[uint64]"], unfollowed := true, recurses := true, apart := false }
def TreeRefusesSaid : Prop := treeRefusesRow.holds Tryz.pinned (OpenSpec.ofChange treeRefusesSpec)

/-- ITS FALSE NEIGHBOUR: 'it returns false'. Refute it at one input. -/
def treeRefusesWrong : ChangeSpec := { name := "treeRefuses", fn := fun _ => fun
  | [d1, d2, d3] => { results := [.lit (.bool false)], args := [d1, d2, d3] }
  | _ => none }
def TreeRefusesWrongFalsely : Prop := treeRefusesRow.holds Tryz.pinned (OpenSpec.ofChange treeRefusesWrong)

/-- 'voilelaw16.CheckOrders': WHATEVER THE INPUT: true; the input reads as it did. -/
def checkOrdersSpec : ChangeSpec := { name := "checkOrders", fn := fun _ => fun
  | [d1, d2] => { results := [.lit (.bool true)], args := [d1, d2] }
  | _ => none }
def checkOrdersRow : OpenClaim := { program := "ytcdobdjemlaaaaagreat", sum := "da1a2d7eed45fffde7664ed8601190e196c3c6463612aa3def47c5a854acec26", func := "voile/voilelaw16.CheckOrders", spec := "checkOrders", unfollowed := true, recurses := true, apart := false }
def CheckOrdersSaid : Prop := checkOrdersRow.holds Tryz.pinned (OpenSpec.ofChange checkOrdersSpec)

/-- ITS FALSE NEIGHBOUR: 'it returns false'. Refute it at one input. -/
def checkOrdersWrong : ChangeSpec := { name := "checkOrders", fn := fun _ => fun
  | [d1, d2] => { results := [.lit (.bool false)], args := [d1, d2] }
  | _ => none }
def CheckOrdersWrongFalsely : Prop := checkOrdersRow.holds Tryz.pinned (OpenSpec.ofChange checkOrdersWrong)

/-- 'voilelaw16.CheckNil': WHATEVER THE INPUT: true; the input reads as it did. -/
def checkNilSpec : ChangeSpec := { name := "checkNil", fn := fun _ => fun
  | [] => { results := [.lit (.bool true)], args := [] }
  | _ => none }
def checkNilRow : OpenClaim := { program := "ytcdobdjemlaaaaagreat", sum := "da1a2d7eed45fffde7664ed8601190e196c3c6463612aa3def47c5a854acec26", func := "voile/voilelaw16.CheckNil", spec := "checkNil", unfollowed := true, recurses := true, apart := false }
def CheckNilSaid : Prop := checkNilRow.holds Tryz.pinned (OpenSpec.ofChange checkNilSpec)

/-- ITS FALSE NEIGHBOUR: 'it returns false'. Refute it at one input. -/
def checkNilWrong : ChangeSpec := { name := "checkNil", fn := fun _ => fun
  | [] => { results := [.lit (.bool false)], args := [] }
  | _ => none }
def CheckNilWrongFalsely : Prop := checkNilRow.holds Tryz.pinned (OpenSpec.ofChange checkNilWrong)

/- THE SECOND FORM. 'bulk': how many values and letters a reading holds, each counted each time it is reached (what is shared counts as often as it is met; a slice's spare places count too). A statement '..UptoSaid' is the law's where the arguments, and the package variables that the reading takes, are together of bulk at most 1048576: NARROWER than '..Said'. Prove '..Said' where nothing that the law and all that it calls make is longer than what came in: it says more and counts as full. Else prove '..UptoSaid'. A law counts once. -/
mutual
def uptoBulk {H : Type} : DataW H → Nat
  | .lit (.string bytes) => bytes.length + 1
  | .lit _ => 1
  | .nil => 1
  | .ptr d => uptoBulk d + 1
  | .slice elems spare => uptoBulkAll elems + uptoBulkAll spare + 1
  | .agg parts => uptoBulkAll parts + 1
  | .iface _ d => uptoBulk d + 1
  | .map entries => uptoBulkEntries entries + 1
  | .held _ => 1
def uptoBulkAll {H : Type} : List (DataW H) → Nat
  | [] => 0
  | d :: r => uptoBulk d + uptoBulkAll r
def uptoBulkEntries {H : Type} : List (Lit × DataW H) → Nat
  | [] => 0
  | x :: r => uptoBulkEntry x + uptoBulkEntries r
def uptoBulkEntry {H : Type} : Lit × DataW H → Nat
  | (.string bytes, d) => bytes.length + uptoBulk d + 1
  | (_, d) => uptoBulk d + 1
 end
def uptoSmall : (H : Type) → List (DataW H) → Bool := fun _ ds => decide (uptoBulkAll ds ≤ 1048576)
def OpenSpec.upto (s : _root_.Go.ChangeSpec) : _root_.Go.OpenSpec := { _root_.Go.OpenSpec.ofChange s with cond := some uptoSmall }

/-- 'voilelaw08.StoreNil', WHERE WHAT IT READS IS OF BULK AT MOST 1048576: true; the input reads as it did. -/
def storeNilUptoRow : OpenClaim := { program := "ytcdobdjemlaaaaagreat", sum := "da1a2d7eed45fffde7664ed8601190e196c3c6463612aa3def47c5a854acec26", func := "voile/voilelaw08.StoreNil", spec := "storeNil", unfollowed := true, recurses := true, apart := false, narrowed := true }
def StoreNilUptoSaid : Prop := storeNilUptoRow.holds Tryz.pinned (OpenSpec.upto storeNilSpec)

/-- 'voilelaw09.TreeNil', WHERE WHAT IT READS IS OF BULK AT MOST 1048576: true; the input reads as it did. -/
def treeNilUptoRow : OpenClaim := { program := "ytcdobdjemlaaaaagreat", sum := "da1a2d7eed45fffde7664ed8601190e196c3c6463612aa3def47c5a854acec26", func := "voile/voilelaw09.TreeNil", spec := "treeNil", inPlace := ["slices.overlaps[uint64]"], unfollowed := true, recurses := true, apart := false, narrowed := true }
def TreeNilUptoSaid : Prop := treeNilUptoRow.holds Tryz.pinned (OpenSpec.upto treeNilSpec)

/-- 'voilelaw09.TreeRefuses', WHERE WHAT IT READS IS OF BULK AT MOST 1048576: true; the input reads as it did. -/
def treeRefusesUptoRow : OpenClaim := { program := "ytcdobdjemlaaaaagreat", sum := "da1a2d7eed45fffde7664ed8601190e196c3c6463612aa3def47c5a854acec26", func := "voile/voilelaw09.TreeRefuses", spec := "treeRefuses", inPlace := ["slices.overlaps[uint64]"], unfollowed := true, recurses := true, apart := false, narrowed := true }
def TreeRefusesUptoSaid : Prop := treeRefusesUptoRow.holds Tryz.pinned (OpenSpec.upto treeRefusesSpec)

/-- 'voilelaw16.CheckOrders', WHERE WHAT IT READS IS OF BULK AT MOST 1048576: true; the input reads as it did. -/
def checkOrdersUptoRow : OpenClaim := { program := "ytcdobdjemlaaaaagreat", sum := "da1a2d7eed45fffde7664ed8601190e196c3c6463612aa3def47c5a854acec26", func := "voile/voilelaw16.CheckOrders", spec := "checkOrders", unfollowed := true, recurses := true, apart := false, narrowed := true }
def CheckOrdersUptoSaid : Prop := checkOrdersUptoRow.holds Tryz.pinned (OpenSpec.upto checkOrdersSpec)

/-- 'voilelaw16.CheckNil', WHERE WHAT IT READS IS OF BULK AT MOST 1048576: true; the input reads as it did. -/
def checkNilUptoRow : OpenClaim := { program := "ytcdobdjemlaaaaagreat", sum := "da1a2d7eed45fffde7664ed8601190e196c3c6463612aa3def47c5a854acec26", func := "voile/voilelaw16.CheckNil", spec := "checkNil", unfollowed := true, recurses := true, apart := false, narrowed := true }
def CheckNilUptoSaid : Prop := checkNilUptoRow.holds Tryz.pinned (OpenSpec.upto checkNilSpec)

end Rows
end Go.Proofs.YtcdobdjemlaaaaaGreat
