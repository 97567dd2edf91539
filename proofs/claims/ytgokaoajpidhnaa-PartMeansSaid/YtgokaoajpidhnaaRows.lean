/-
  No cell of these rows narrows 'for every input' (looked for: loops, veiled, ifaces, maps, wideKeys, modest, calm, conditions, laid).
  DERIVED. THE GIVEN ROWS OF THIS SEAT. 13 by the template 'for every input the law returns true; each argument reads behind the call as it read before'; 0 by the template 'total and deterministic' (their statements: YtgokaoajpidhnaaTotals.lean).
  GIVEN WITH THE SEED: the statements are not yours to turn. If you find one false, say at which input.
  Laid BY PROGRAM, IN A SANDBOX (cutbox-rows.mjs): the forced cells as the released guide's own fill.sh prints them over the translation b60ae8386ef70945… (all of the seat's roots in one cut). By AI agents, Wed Nov 11 2026. No macro, syntax, notation, axiom, sorry.
-/
import Derived.Test.YtgokaoajpidhnaaChecked
import GoSem.Claim
import GoSem.ClaimJoined
import GoSem.ClaimMapViews
import Derived.JoinedTies
import Derived.KernelRfl
namespace Go.Proofs.Ytgokaoajpidhnaa
/- THE CELL 'sum', in the pinned program and in every row, IS THE sha256 OF THE DUMP (.gsa) THAT YtgokaoajpidhnaaProg.lean LOADS. Nothing in Lean hashes anything: it is a label: what it is worth is what the hold of that sum in a sandbox is worth. -/
noncomputable def Try.pinned : Pinned := { name := "ytgokaoajpidhnaa", sum := "b60ae8386ef709455338f0a20e0d24cd99bd0b707061945bc5da1ee60e4e705f", checked := Try.checked }
namespace Rows
def none {H : Type} : Left H := { results := [], args := [] }

/-- 'voilelaw31.RepairSplits': WHATEVER THE INPUT: true; the input reads as it did. -/
def repairSplitsSpec : ChangeSpec := { name := "repairSplits", fn := fun _ => fun
  | [d] => { results := [.lit (.bool true)], args := [d] }
  | _ => none }
def repairSplitsRow : OpenClaim := { program := "ytgokaoajpidhnaa", sum := "b60ae8386ef709455338f0a20e0d24cd99bd0b707061945bc5da1ee60e4e705f", func := "voile/voilelaw31.RepairSplits", spec := "repairSplits", apart := false }
def RepairSplitsSaid : Prop := repairSplitsRow.holds Try.pinned (OpenSpec.ofChange repairSplitsSpec)

/-- ITS FALSE NEIGHBOUR: 'it returns false'. Refute it at one input. -/
def repairSplitsWrong : ChangeSpec := { name := "repairSplits", fn := fun _ => fun
  | [d] => { results := [.lit (.bool false)], args := [d] }
  | _ => none }
def RepairSplitsWrongFalsely : Prop := repairSplitsRow.holds Try.pinned (OpenSpec.ofChange repairSplitsWrong)

/-- 'voilelaw12.PartRows': WHATEVER THE INPUT: true; the input reads as it did. -/
def partRowsSpec : ChangeSpec := { name := "partRows", fn := fun _ => fun
  | [d1, d2, d3, d4] => { results := [.lit (.bool true)], args := [d1, d2, d3, d4] }
  | _ => none }
def partRowsRow : OpenClaim := { program := "ytgokaoajpidhnaa", sum := "b60ae8386ef709455338f0a20e0d24cd99bd0b707061945bc5da1ee60e4e705f", func := "voile/voilelaw12.PartRows", spec := "partRows", unfollowed := true, recurses := true, apart := false }
def PartRowsSaid : Prop := partRowsRow.holds Try.pinned (OpenSpec.ofChange partRowsSpec)

/-- ITS FALSE NEIGHBOUR: 'it returns false'. Refute it at one input. -/
def partRowsWrong : ChangeSpec := { name := "partRows", fn := fun _ => fun
  | [d1, d2, d3, d4] => { results := [.lit (.bool false)], args := [d1, d2, d3, d4] }
  | _ => none }
def PartRowsWrongFalsely : Prop := partRowsRow.holds Try.pinned (OpenSpec.ofChange partRowsWrong)

/-- 'voilelaw12.PartData': WHATEVER THE INPUT: true; the input reads as it did. -/
def partDataSpec : ChangeSpec := { name := "partData", fn := fun _ => fun
  | [d1, d2, d3] => { results := [.lit (.bool true)], args := [d1, d2, d3] }
  | _ => none }
def partDataRow : OpenClaim := { program := "ytgokaoajpidhnaa", sum := "b60ae8386ef709455338f0a20e0d24cd99bd0b707061945bc5da1ee60e4e705f", func := "voile/voilelaw12.PartData", spec := "partData", unfollowed := true, recurses := true, apart := false }
def PartDataSaid : Prop := partDataRow.holds Try.pinned (OpenSpec.ofChange partDataSpec)

/-- ITS FALSE NEIGHBOUR: 'it returns false'. Refute it at one input. -/
def partDataWrong : ChangeSpec := { name := "partData", fn := fun _ => fun
  | [d1, d2, d3] => { results := [.lit (.bool false)], args := [d1, d2, d3] }
  | _ => none }
def PartDataWrongFalsely : Prop := partDataRow.holds Try.pinned (OpenSpec.ofChange partDataWrong)

/-- 'voilelaw12.PartMeans': WHATEVER THE INPUT: true; the input reads as it did. -/
def partMeansSpec : ChangeSpec := { name := "partMeans", fn := fun _ => fun
  | [d1, d2, d3] => { results := [.lit (.bool true)], args := [d1, d2, d3] }
  | _ => none }
def partMeansRow : OpenClaim := { program := "ytgokaoajpidhnaa", sum := "b60ae8386ef709455338f0a20e0d24cd99bd0b707061945bc5da1ee60e4e705f", func := "voile/voilelaw12.PartMeans", spec := "partMeans", unfollowed := true, recurses := true, apart := false }
def PartMeansSaid : Prop := partMeansRow.holds Try.pinned (OpenSpec.ofChange partMeansSpec)

/-- ITS FALSE NEIGHBOUR: 'it returns false'. Refute it at one input. -/
def partMeansWrong : ChangeSpec := { name := "partMeans", fn := fun _ => fun
  | [d1, d2, d3] => { results := [.lit (.bool false)], args := [d1, d2, d3] }
  | _ => none }
def PartMeansWrongFalsely : Prop := partMeansRow.holds Try.pinned (OpenSpec.ofChange partMeansWrong)

/-- 'voilelaw06.CountPlays': WHATEVER THE INPUT: true; the input reads as it did. -/
def countPlaysSpec : ChangeSpec := { name := "countPlays", fn := fun _ => fun
  | [d1, d2] => { results := [.lit (.bool true)], args := [d1, d2] }
  | _ => none }
def countPlaysRow : OpenClaim := { program := "ytgokaoajpidhnaa", sum := "b60ae8386ef709455338f0a20e0d24cd99bd0b707061945bc5da1ee60e4e705f", func := "voile/voilelaw06.CountPlays", spec := "countPlays", apart := false }
def CountPlaysSaid : Prop := countPlaysRow.holds Try.pinned (OpenSpec.ofChange countPlaysSpec)

/-- ITS FALSE NEIGHBOUR: 'it returns false'. Refute it at one input. -/
def countPlaysWrong : ChangeSpec := { name := "countPlays", fn := fun _ => fun
  | [d1, d2] => { results := [.lit (.bool false)], args := [d1, d2] }
  | _ => none }
def CountPlaysWrongFalsely : Prop := countPlaysRow.holds Try.pinned (OpenSpec.ofChange countPlaysWrong)

/-- 'voilelaw06.CountApart': WHATEVER THE INPUT: true; the input reads as it did. -/
def countApartSpec : ChangeSpec := { name := "countApart", fn := fun _ => fun
  | [d1, d2, d3, d4] => { results := [.lit (.bool true)], args := [d1, d2, d3, d4] }
  | _ => none }
def countApartRow : OpenClaim := { program := "ytgokaoajpidhnaa", sum := "b60ae8386ef709455338f0a20e0d24cd99bd0b707061945bc5da1ee60e4e705f", func := "voile/voilelaw06.CountApart", spec := "countApart", apart := false }
def CountApartSaid : Prop := countApartRow.holds Try.pinned (OpenSpec.ofChange countApartSpec)

/-- ITS FALSE NEIGHBOUR: 'it returns false'. Refute it at one input. -/
def countApartWrong : ChangeSpec := { name := "countApart", fn := fun _ => fun
  | [d1, d2, d3, d4] => { results := [.lit (.bool false)], args := [d1, d2, d3, d4] }
  | _ => none }
def CountApartWrongFalsely : Prop := countApartRow.holds Try.pinned (OpenSpec.ofChange countApartWrong)

/-- 'voilelaw06.CountNil': WHATEVER THE INPUT: true; the input reads as it did. -/
def countNilSpec : ChangeSpec := { name := "countNil", fn := fun _ => fun
  | [] => { results := [.lit (.bool true)], args := [] }
  | _ => none }
def countNilRow : OpenClaim := { program := "ytgokaoajpidhnaa", sum := "b60ae8386ef709455338f0a20e0d24cd99bd0b707061945bc5da1ee60e4e705f", func := "voile/voilelaw06.CountNil", spec := "countNil", apart := false }
def CountNilSaid : Prop := countNilRow.holds Try.pinned (OpenSpec.ofChange countNilSpec)

/-- ITS FALSE NEIGHBOUR: 'it returns false'. Refute it at one input. -/
def countNilWrong : ChangeSpec := { name := "countNil", fn := fun _ => fun
  | [] => { results := [.lit (.bool false)], args := [] }
  | _ => none }
def CountNilWrongFalsely : Prop := countNilRow.holds Try.pinned (OpenSpec.ofChange countNilWrong)

/-- 'voilelaw01.WirePacks': WHATEVER THE INPUT: true; the input reads as it did. -/
def wirePacksSpec : ChangeSpec := { name := "wirePacks", fn := fun _ => fun
  | [d1, d2] => { results := [.lit (.bool true)], args := [d1, d2] }
  | _ => none }
def wirePacksRow : OpenClaim := { program := "ytgokaoajpidhnaa", sum := "b60ae8386ef709455338f0a20e0d24cd99bd0b707061945bc5da1ee60e4e705f", func := "voile/voilelaw01.WirePacks", spec := "wirePacks", inPlace := ["internal/bytealg.IndexByteString", "internal/bytealg.IndexString"], unfollowed := true, recurses := true, named := ["internal/bytealg.MaxLen"], apart := false }
def WirePacksSaid : Prop := wirePacksRow.holds Try.pinned (OpenSpec.ofChange wirePacksSpec)

/-- ITS FALSE NEIGHBOUR: 'it returns false'. Refute it at one input. -/
def wirePacksWrong : ChangeSpec := { name := "wirePacks", fn := fun _ => fun
  | [d1, d2] => { results := [.lit (.bool false)], args := [d1, d2] }
  | _ => none }
def WirePacksWrongFalsely : Prop := wirePacksRow.holds Try.pinned (OpenSpec.ofChange wirePacksWrong)

/-- 'voilelaw01.WireUnpacks': WHATEVER THE INPUT: true; the input reads as it did. -/
def wireUnpacksSpec : ChangeSpec := { name := "wireUnpacks", fn := fun _ => fun
  | [d1, d2] => { results := [.lit (.bool true)], args := [d1, d2] }
  | _ => none }
def wireUnpacksRow : OpenClaim := { program := "ytgokaoajpidhnaa", sum := "b60ae8386ef709455338f0a20e0d24cd99bd0b707061945bc5da1ee60e4e705f", func := "voile/voilelaw01.WireUnpacks", spec := "wireUnpacks", inPlace := ["internal/bytealg.IndexByteString", "internal/bytealg.IndexString"], unfollowed := true, recurses := true, named := ["internal/bytealg.MaxLen"], apart := false }
def WireUnpacksSaid : Prop := wireUnpacksRow.holds Try.pinned (OpenSpec.ofChange wireUnpacksSpec)

/-- ITS FALSE NEIGHBOUR: 'it returns false'. Refute it at one input. -/
def wireUnpacksWrong : ChangeSpec := { name := "wireUnpacks", fn := fun _ => fun
  | [d1, d2] => { results := [.lit (.bool false)], args := [d1, d2] }
  | _ => none }
def WireUnpacksWrongFalsely : Prop := wireUnpacksRow.holds Try.pinned (OpenSpec.ofChange wireUnpacksWrong)

/-- 'voilelaw01.WireMeans': WHATEVER THE INPUT: true; the input reads as it did. -/
def wireMeansSpec : ChangeSpec := { name := "wireMeans", fn := fun _ => fun
  | [d1, d2, d3, d4] => { results := [.lit (.bool true)], args := [d1, d2, d3, d4] }
  | _ => none }
def wireMeansRow : OpenClaim := { program := "ytgokaoajpidhnaa", sum := "b60ae8386ef709455338f0a20e0d24cd99bd0b707061945bc5da1ee60e4e705f", func := "voile/voilelaw01.WireMeans", spec := "wireMeans", inPlace := ["internal/bytealg.IndexByteString", "internal/bytealg.IndexString"], unfollowed := true, recurses := true, named := ["internal/bytealg.MaxLen"], apart := false }
def WireMeansSaid : Prop := wireMeansRow.holds Try.pinned (OpenSpec.ofChange wireMeansSpec)

/-- ITS FALSE NEIGHBOUR: 'it returns false'. Refute it at one input. -/
def wireMeansWrong : ChangeSpec := { name := "wireMeans", fn := fun _ => fun
  | [d1, d2, d3, d4] => { results := [.lit (.bool false)], args := [d1, d2, d3, d4] }
  | _ => none }
def WireMeansWrongFalsely : Prop := wireMeansRow.holds Try.pinned (OpenSpec.ofChange wireMeansWrong)

/-- 'voilelaw01.WireJoins': WHATEVER THE INPUT: true; the input reads as it did. -/
def wireJoinsSpec : ChangeSpec := { name := "wireJoins", fn := fun _ => fun
  | [d1, d2, d3] => { results := [.lit (.bool true)], args := [d1, d2, d3] }
  | _ => none }
def wireJoinsRow : OpenClaim := { program := "ytgokaoajpidhnaa", sum := "b60ae8386ef709455338f0a20e0d24cd99bd0b707061945bc5da1ee60e4e705f", func := "voile/voilelaw01.WireJoins", spec := "wireJoins", inPlace := ["internal/bytealg.IndexByteString", "internal/bytealg.IndexString"], unfollowed := true, recurses := true, named := ["internal/bytealg.MaxLen"], apart := false }
def WireJoinsSaid : Prop := wireJoinsRow.holds Try.pinned (OpenSpec.ofChange wireJoinsSpec)

/-- ITS FALSE NEIGHBOUR: 'it returns false'. Refute it at one input. -/
def wireJoinsWrong : ChangeSpec := { name := "wireJoins", fn := fun _ => fun
  | [d1, d2, d3] => { results := [.lit (.bool false)], args := [d1, d2, d3] }
  | _ => none }
def WireJoinsWrongFalsely : Prop := wireJoinsRow.holds Try.pinned (OpenSpec.ofChange wireJoinsWrong)

/-- 'voilelaw01.WireBounds': WHATEVER THE INPUT: true; the input reads as it did. -/
def wireBoundsSpec : ChangeSpec := { name := "wireBounds", fn := fun _ => fun
  | [] => { results := [.lit (.bool true)], args := [] }
  | _ => none }
def wireBoundsRow : OpenClaim := { program := "ytgokaoajpidhnaa", sum := "b60ae8386ef709455338f0a20e0d24cd99bd0b707061945bc5da1ee60e4e705f", func := "voile/voilelaw01.WireBounds", spec := "wireBounds", inPlace := ["internal/bytealg.IndexByteString", "internal/bytealg.IndexString"], unfollowed := true, recurses := true, named := ["internal/bytealg.MaxLen"], apart := false }
def WireBoundsSaid : Prop := wireBoundsRow.holds Try.pinned (OpenSpec.ofChange wireBoundsSpec)

/-- ITS FALSE NEIGHBOUR: 'it returns false'. Refute it at one input. -/
def wireBoundsWrong : ChangeSpec := { name := "wireBounds", fn := fun _ => fun
  | [] => { results := [.lit (.bool false)], args := [] }
  | _ => none }
def WireBoundsWrongFalsely : Prop := wireBoundsRow.holds Try.pinned (OpenSpec.ofChange wireBoundsWrong)

/-- 'voilelaw01.WireShapes': WHATEVER THE INPUT: true; the input reads as it did. -/
def wireShapesSpec : ChangeSpec := { name := "wireShapes", fn := fun _ => fun
  | [d1, d2] => { results := [.lit (.bool true)], args := [d1, d2] }
  | _ => none }
def wireShapesRow : OpenClaim := { program := "ytgokaoajpidhnaa", sum := "b60ae8386ef709455338f0a20e0d24cd99bd0b707061945bc5da1ee60e4e705f", func := "voile/voilelaw01.WireShapes", spec := "wireShapes", inPlace := ["internal/bytealg.IndexByteString", "internal/bytealg.IndexString"], unfollowed := true, recurses := true, named := ["internal/bytealg.MaxLen"], apart := false }
def WireShapesSaid : Prop := wireShapesRow.holds Try.pinned (OpenSpec.ofChange wireShapesSpec)

/-- ITS FALSE NEIGHBOUR: 'it returns false'. Refute it at one input. -/
def wireShapesWrong : ChangeSpec := { name := "wireShapes", fn := fun _ => fun
  | [d1, d2] => { results := [.lit (.bool false)], args := [d1, d2] }
  | _ => none }
def WireShapesWrongFalsely : Prop := wireShapesRow.holds Try.pinned (OpenSpec.ofChange wireShapesWrong)

/- THE SECOND FORM. 'bulk': how many values and letters a reading holds, each counted each time it is reached (what is shared counts as often as it is met; a slice's spare places count too). A statement '..UptoSaid' is the law's where the arguments, and the package variables that the reading takes, are together of bulk at most 1048576: NARROWER than '..Said'. Prove '..Said' where nothing that the law and all that it calls make is longer than what came in: it says more and counts as full. Else prove '..UptoSaid'. A law counts once. -/
mutual
def uptoBulk {H : Type} : DataW H → Nat
  | .lit (.string bytes) => bytes.length + 1
  | .lit _ => 1
  | .nil => 1
  | .ptr d => uptoBulk d + 1
  | .slice elems spare => uptoBulkAll elems + uptoBulkAll spare + 1
  | .agg parts => uptoBulkAll parts + 1
  | .iface _ d => uptoBulk d + 1
  | .map entries => uptoBulkEntries entries + 1
  | .held _ => 1
def uptoBulkAll {H : Type} : List (DataW H) → Nat
  | [] => 0
  | d :: r => uptoBulk d + uptoBulkAll r
def uptoBulkEntries {H : Type} : List (Lit × DataW H) → Nat
  | [] => 0
  | x :: r => uptoBulkEntry x + uptoBulkEntries r
def uptoBulkEntry {H : Type} : Lit × DataW H → Nat
  | (.string bytes, d) => bytes.length + uptoBulk d + 1
  | (_, d) => uptoBulk d + 1
 end
def uptoSmall : (H : Type) → List (DataW H) → Bool := fun _ ds => decide (uptoBulkAll ds ≤ 1048576)
def OpenSpec.upto (s : _root_.Go.ChangeSpec) : _root_.Go.OpenSpec := { _root_.Go.OpenSpec.ofChange s with cond := some uptoSmall }

/-- 'voilelaw31.RepairSplits', WHERE WHAT IT READS IS OF BULK AT MOST 1048576: true; the input reads as it did. -/
def repairSplitsUptoRow : OpenClaim := { program := "ytgokaoajpidhnaa", sum := "b60ae8386ef709455338f0a20e0d24cd99bd0b707061945bc5da1ee60e4e705f", func := "voile/voilelaw31.RepairSplits", spec := "repairSplits", apart := false, narrowed := true }
def RepairSplitsUptoSaid : Prop := repairSplitsUptoRow.holds Try.pinned (OpenSpec.upto repairSplitsSpec)

/-- 'voilelaw12.PartRows', WHERE WHAT IT READS IS OF BULK AT MOST 1048576: true; the input reads as it did. -/
def partRowsUptoRow : OpenClaim := { program := "ytgokaoajpidhnaa", sum := "b60ae8386ef709455338f0a20e0d24cd99bd0b707061945bc5da1ee60e4e705f", func := "voile/voilelaw12.PartRows", spec := "partRows", unfollowed := true, recurses := true, apart := false, narrowed := true }
def PartRowsUptoSaid : Prop := partRowsUptoRow.holds Try.pinned (OpenSpec.upto partRowsSpec)

/-- 'voilelaw12.PartData', WHERE WHAT IT READS IS OF BULK AT MOST 1048576: true; the input reads as it did. -/
def partDataUptoRow : OpenClaim := { program := "ytgokaoajpidhnaa", sum := "b60ae8386ef709455338f0a20e0d24cd99bd0b707061945bc5da1ee60e4e705f", func := "voile/voilelaw12.PartData", spec := "partData", unfollowed := true, recurses := true, apart := false, narrowed := true }
def PartDataUptoSaid : Prop := partDataUptoRow.holds Try.pinned (OpenSpec.upto partDataSpec)

/-- 'voilelaw12.PartMeans', WHERE WHAT IT READS IS OF BULK AT MOST 1048576: true; the input reads as it did. -/
def partMeansUptoRow : OpenClaim := { program := "ytgokaoajpidhnaa", sum := "b60ae8386ef709455338f0a20e0d24cd99bd0b707061945bc5da1ee60e4e705f", func := "voile/voilelaw12.PartMeans", spec := "partMeans", unfollowed := true, recurses := true, apart := false, narrowed := true }
def PartMeansUptoSaid : Prop := partMeansUptoRow.holds Try.pinned (OpenSpec.upto partMeansSpec)

/-- 'voilelaw06.CountPlays', WHERE WHAT IT READS IS OF BULK AT MOST 1048576: true; the input reads as it did. -/
def countPlaysUptoRow : OpenClaim := { program := "ytgokaoajpidhnaa", sum := "b60ae8386ef709455338f0a20e0d24cd99bd0b707061945bc5da1ee60e4e705f", func := "voile/voilelaw06.CountPlays", spec := "countPlays", apart := false, narrowed := true }
def CountPlaysUptoSaid : Prop := countPlaysUptoRow.holds Try.pinned (OpenSpec.upto countPlaysSpec)

/-- 'voilelaw06.CountApart', WHERE WHAT IT READS IS OF BULK AT MOST 1048576: true; the input reads as it did. -/
def countApartUptoRow : OpenClaim := { program := "ytgokaoajpidhnaa", sum := "b60ae8386ef709455338f0a20e0d24cd99bd0b707061945bc5da1ee60e4e705f", func := "voile/voilelaw06.CountApart", spec := "countApart", apart := false, narrowed := true }
def CountApartUptoSaid : Prop := countApartUptoRow.holds Try.pinned (OpenSpec.upto countApartSpec)

/-- 'voilelaw06.CountNil', WHERE WHAT IT READS IS OF BULK AT MOST 1048576: true; the input reads as it did. -/
def countNilUptoRow : OpenClaim := { program := "ytgokaoajpidhnaa", sum := "b60ae8386ef709455338f0a20e0d24cd99bd0b707061945bc5da1ee60e4e705f", func := "voile/voilelaw06.CountNil", spec := "countNil", apart := false, narrowed := true }
def CountNilUptoSaid : Prop := countNilUptoRow.holds Try.pinned (OpenSpec.upto countNilSpec)

/-- 'voilelaw01.WirePacks', WHERE WHAT IT READS IS OF BULK AT MOST 1048576: true; the input reads as it did. -/
def wirePacksUptoRow : OpenClaim := { program := "ytgokaoajpidhnaa", sum := "b60ae8386ef709455338f0a20e0d24cd99bd0b707061945bc5da1ee60e4e705f", func := "voile/voilelaw01.WirePacks", spec := "wirePacks", inPlace := ["internal/bytealg.IndexByteString", "internal/bytealg.IndexString"], unfollowed := true, recurses := true, named := ["internal/bytealg.MaxLen"], apart := false, narrowed := true }
def WirePacksUptoSaid : Prop := wirePacksUptoRow.holds Try.pinned (OpenSpec.upto wirePacksSpec)

/-- 'voilelaw01.WireUnpacks', WHERE WHAT IT READS IS OF BULK AT MOST 1048576: true; the input reads as it did. -/
def wireUnpacksUptoRow : OpenClaim := { program := "ytgokaoajpidhnaa", sum := "b60ae8386ef709455338f0a20e0d24cd99bd0b707061945bc5da1ee60e4e705f", func := "voile/voilelaw01.WireUnpacks", spec := "wireUnpacks", inPlace := ["internal/bytealg.IndexByteString", "internal/bytealg.IndexString"], unfollowed := true, recurses := true, named := ["internal/bytealg.MaxLen"], apart := false, narrowed := true }
def WireUnpacksUptoSaid : Prop := wireUnpacksUptoRow.holds Try.pinned (OpenSpec.upto wireUnpacksSpec)

/-- 'voilelaw01.WireMeans', WHERE WHAT IT READS IS OF BULK AT MOST 1048576: true; the input reads as it did. -/
def wireMeansUptoRow : OpenClaim := { program := "ytgokaoajpidhnaa", sum := "b60ae8386ef709455338f0a20e0d24cd99bd0b707061945bc5da1ee60e4e705f", func := "voile/voilelaw01.WireMeans", spec := "wireMeans", inPlace := ["internal/bytealg.IndexByteString", "internal/bytealg.IndexString"], unfollowed := true, recurses := true, named := ["internal/bytealg.MaxLen"], apart := false, narrowed := true }
def WireMeansUptoSaid : Prop := wireMeansUptoRow.holds Try.pinned (OpenSpec.upto wireMeansSpec)

/-- 'voilelaw01.WireJoins', WHERE WHAT IT READS IS OF BULK AT MOST 1048576: true; the input reads as it did. -/
def wireJoinsUptoRow : OpenClaim := { program := "ytgokaoajpidhnaa", sum := "b60ae8386ef709455338f0a20e0d24cd99bd0b707061945bc5da1ee60e4e705f", func := "voile/voilelaw01.WireJoins", spec := "wireJoins", inPlace := ["internal/bytealg.IndexByteString", "internal/bytealg.IndexString"], unfollowed := true, recurses := true, named := ["internal/bytealg.MaxLen"], apart := false, narrowed := true }
def WireJoinsUptoSaid : Prop := wireJoinsUptoRow.holds Try.pinned (OpenSpec.upto wireJoinsSpec)

/-- 'voilelaw01.WireBounds', WHERE WHAT IT READS IS OF BULK AT MOST 1048576: true; the input reads as it did. -/
def wireBoundsUptoRow : OpenClaim := { program := "ytgokaoajpidhnaa", sum := "b60ae8386ef709455338f0a20e0d24cd99bd0b707061945bc5da1ee60e4e705f", func := "voile/voilelaw01.WireBounds", spec := "wireBounds", inPlace := ["internal/bytealg.IndexByteString", "internal/bytealg.IndexString"], unfollowed := true, recurses := true, named := ["internal/bytealg.MaxLen"], apart := false, narrowed := true }
def WireBoundsUptoSaid : Prop := wireBoundsUptoRow.holds Try.pinned (OpenSpec.upto wireBoundsSpec)

/-- 'voilelaw01.WireShapes', WHERE WHAT IT READS IS OF BULK AT MOST 1048576: true; the input reads as it did. -/
def wireShapesUptoRow : OpenClaim := { program := "ytgokaoajpidhnaa", sum := "b60ae8386ef709455338f0a20e0d24cd99bd0b707061945bc5da1ee60e4e705f", func := "voile/voilelaw01.WireShapes", spec := "wireShapes", inPlace := ["internal/bytealg.IndexByteString", "internal/bytealg.IndexString"], unfollowed := true, recurses := true, named := ["internal/bytealg.MaxLen"], apart := false, narrowed := true }
def WireShapesUptoSaid : Prop := wireShapesUptoRow.holds Try.pinned (OpenSpec.upto wireShapesSpec)

end Rows
end Go.Proofs.Ytgokaoajpidhnaa
