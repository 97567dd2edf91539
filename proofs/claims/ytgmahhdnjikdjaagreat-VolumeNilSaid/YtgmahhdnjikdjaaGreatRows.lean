/-
  No cell of these rows narrows 'for every input' (looked for: loops, veiled, ifaces, maps, wideKeys, modest, calm, conditions, laid).
  DERIVED. THE GIVEN ROWS OF THIS SEAT. 3 by the template 'for every input the law returns true; each argument reads behind the call as it read before'; 0 by the template 'total and deterministic' (their statements: YtgmahhdnjikdjaaGreatTotals.lean).
  GIVEN WITH THE SEED: the statements are not yours to turn. If you find one false, say at which input.
  Laid BY PROGRAM, IN A SANDBOX (cutbox-rows.mjs): the forced cells as the released guide's own fill.sh prints them over the translation 051fa5a5c992f32c… (all of the seat's roots in one cut). By AI agents, Wed Nov 11 2026. No macro, syntax, notation, axiom, sorry.
-/
import Derived.Test.YtgmahhdnjikdjaaGreatChecked
import GoSem.Claim
import GoSem.ClaimJoined
import GoSem.ClaimMapViews
import Derived.JoinedTies
import Derived.KernelRfl
namespace Go.Proofs.YtgmahhdnjikdjaaGreat
/- THE CELL 'sum', in the pinned program and in every row, IS THE sha256 OF THE DUMP (.gsa) THAT YtgmahhdnjikdjaaGreatProg.lean LOADS. Nothing in Lean hashes anything: it is a label: what it is worth is what the hold of that sum in a sandbox is worth. -/
noncomputable def Tryz.pinned : Pinned := { name := "ytgmahhdnjikdjaagreat", sum := "051fa5a5c992f32c47559c4728dbfe35eae535e8de985b5b2048dd96a4e8eb1a", checked := Tryz.checked }
namespace Rows
def none {H : Type} : Left H := { results := [], args := [] }

/-- 'voilelaw11.VolumeNil': WHATEVER THE INPUT: true; the input reads as it did. -/
def volumeNilSpec : ChangeSpec := { name := "volumeNil", fn := fun _ => fun
  | [] => { results := [.lit (.bool true)], args := [] }
  | _ => none }
def volumeNilRow : OpenClaim := { program := "ytgmahhdnjikdjaagreat", sum := "051fa5a5c992f32c47559c4728dbfe35eae535e8de985b5b2048dd96a4e8eb1a", func := "voile/voilelaw11.VolumeNil", spec := "volumeNil", inPlace := ["slices.overlaps[uint64]"], unfollowed := true, recurses := true, apart := false }
def VolumeNilSaid : Prop := volumeNilRow.holds Tryz.pinned (OpenSpec.ofChange volumeNilSpec)

/-- ITS FALSE NEIGHBOUR: 'it returns false'. Refute it at one input. -/
def volumeNilWrong : ChangeSpec := { name := "volumeNil", fn := fun _ => fun
  | [] => { results := [.lit (.bool false)], args := [] }
  | _ => none }
def VolumeNilWrongFalsely : Prop := volumeNilRow.holds Tryz.pinned (OpenSpec.ofChange volumeNilWrong)

/-- 'voilelaw10.DiffNil': WHATEVER THE INPUT: true; the input reads as it did. -/
def diffNilSpec : ChangeSpec := { name := "diffNil", fn := fun _ => fun
  | [] => { results := [.lit (.bool true)], args := [] }
  | _ => none }
def diffNilRow : OpenClaim := { program := "ytgmahhdnjikdjaagreat", sum := "051fa5a5c992f32c47559c4728dbfe35eae535e8de985b5b2048dd96a4e8eb1a", func := "voile/voilelaw10.DiffNil", spec := "diffNil", inPlace := ["maps.clone", "slices.overlaps[uint64]"], unfollowed := true, recurses := true, apart := false }
def DiffNilSaid : Prop := diffNilRow.holds Tryz.pinned (OpenSpec.ofChange diffNilSpec)

/-- ITS FALSE NEIGHBOUR: 'it returns false'. Refute it at one input. -/
def diffNilWrong : ChangeSpec := { name := "diffNil", fn := fun _ => fun
  | [] => { results := [.lit (.bool false)], args := [] }
  | _ => none }
def DiffNilWrongFalsely : Prop := diffNilRow.holds Tryz.pinned (OpenSpec.ofChange diffNilWrong)

/-- 'voilelaw31.RepairNil': WHATEVER THE INPUT: true; the input reads as it did. -/
def repairNilSpec : ChangeSpec := { name := "repairNil", fn := fun _ => fun
  | [] => { results := [.lit (.bool true)], args := [] }
  | _ => none }
def repairNilRow : OpenClaim := { program := "ytgmahhdnjikdjaagreat", sum := "051fa5a5c992f32c47559c4728dbfe35eae535e8de985b5b2048dd96a4e8eb1a", func := "voile/voilelaw31.RepairNil", spec := "repairNil", unfollowed := true, recurses := true, apart := false }
def RepairNilSaid : Prop := repairNilRow.holds Tryz.pinned (OpenSpec.ofChange repairNilSpec)

/-- ITS FALSE NEIGHBOUR: 'it returns false'. Refute it at one input. -/
def repairNilWrong : ChangeSpec := { name := "repairNil", fn := fun _ => fun
  | [] => { results := [.lit (.bool false)], args := [] }
  | _ => none }
def RepairNilWrongFalsely : Prop := repairNilRow.holds Tryz.pinned (OpenSpec.ofChange repairNilWrong)

/- THE SECOND FORM. 'bulk': how many values and letters a reading holds, each counted each time it is reached (what is shared counts as often as it is met; a slice's spare places count too). A statement '..UptoSaid' is the law's where the arguments, and the package variables that the reading takes, are together of bulk at most 1048576: NARROWER than '..Said'. Prove '..Said' where nothing that the law and all that it calls make is longer than what came in: it says more and counts as full. Else prove '..UptoSaid'. A law counts once. -/
mutual
def uptoBulk {H : Type} : DataW H → Nat
  | .lit (.string bytes) => bytes.length + 1
  | .lit _ => 1
  | .nil => 1
  | .ptr d => uptoBulk d + 1
  | .slice elems spare => uptoBulkAll elems + uptoBulkAll spare + 1
  | .agg parts => uptoBulkAll parts + 1
  | .iface _ d => uptoBulk d + 1
  | .map entries => uptoBulkEntries entries + 1
  | .held _ => 1
def uptoBulkAll {H : Type} : List (DataW H) → Nat
  | [] => 0
  | d :: r => uptoBulk d + uptoBulkAll r
def uptoBulkEntries {H : Type} : List (Lit × DataW H) → Nat
  | [] => 0
  | x :: r => uptoBulkEntry x + uptoBulkEntries r
def uptoBulkEntry {H : Type} : Lit × DataW H → Nat
  | (.string bytes, d) => bytes.length + uptoBulk d + 1
  | (_, d) => uptoBulk d + 1
 end
def uptoSmall : (H : Type) → List (DataW H) → Bool := fun _ ds => decide (uptoBulkAll ds ≤ 1048576)
def OpenSpec.upto (s : _root_.Go.ChangeSpec) : _root_.Go.OpenSpec := { _root_.Go.OpenSpec.ofChange s with cond := some uptoSmall }

/-- 'voilelaw11.VolumeNil', WHERE WHAT IT READS IS OF BULK AT MOST 1048576: true; the input reads as it did. -/
def volumeNilUptoRow : OpenClaim := { program := "ytgmahhdnjikdjaagreat", sum := "051fa5a5c992f32c47559c4728dbfe35eae535e8de985b5b2048dd96a4e8eb1a", func := "voile/voilelaw11.VolumeNil", spec := "volumeNil", inPlace := ["slices.overlaps[uint64]"], unfollowed := true, recurses := true, apart := false, narrowed := true }
def VolumeNilUptoSaid : Prop := volumeNilUptoRow.holds Tryz.pinned (OpenSpec.upto volumeNilSpec)

/-- 'voilelaw10.DiffNil', WHERE WHAT IT READS IS OF BULK AT MOST 1048576: true; the input reads as it did. -/
def diffNilUptoRow : OpenClaim := { program := "ytgmahhdnjikdjaagreat", sum := "051fa5a5c992f32c47559c4728dbfe35eae535e8de985b5b2048dd96a4e8eb1a", func := "voile/voilelaw10.DiffNil", spec := "diffNil", inPlace := ["maps.clone", "slices.overlaps[uint64]"], unfollowed := true, recurses := true, apart := false, narrowed := true }
def DiffNilUptoSaid : Prop := diffNilUptoRow.holds Tryz.pinned (OpenSpec.upto diffNilSpec)

/-- 'voilelaw31.RepairNil', WHERE WHAT IT READS IS OF BULK AT MOST 1048576: true; the input reads as it did. -/
def repairNilUptoRow : OpenClaim := { program := "ytgmahhdnjikdjaagreat", sum := "051fa5a5c992f32c47559c4728dbfe35eae535e8de985b5b2048dd96a4e8eb1a", func := "voile/voilelaw31.RepairNil", spec := "repairNil", unfollowed := true, recurses := true, apart := false, narrowed := true }
def RepairNilUptoSaid : Prop := repairNilUptoRow.holds Tryz.pinned (OpenSpec.upto repairNilSpec)

end Rows
end Go.Proofs.YtgmahhdnjikdjaaGreat
