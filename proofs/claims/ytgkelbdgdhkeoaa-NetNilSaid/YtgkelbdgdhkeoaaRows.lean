/-
  No cell of these rows narrows 'for every input' (looked for: loops, veiled, ifaces, maps, wideKeys, modest, calm, conditions, laid).
  DERIVED. THE GIVEN ROWS OF THIS SEAT. 14 by the template 'for every input the law returns true; each argument reads behind the call as it read before'; 0 by the template 'total and deterministic' (their statements: YtgkelbdgdhkeoaaTotals.lean).
  GIVEN WITH THE SEED: the statements are not yours to turn. If you find one false, say at which input.
  Laid BY PROGRAM, IN A SANDBOX (cutbox-rows.mjs): the forced cells as the released guide's own fill.sh prints them over the translation 15a196da95c5736c… (all of the seat's roots in one cut). By AI agents, Wed Nov 11 2026. No macro, syntax, notation, axiom, sorry.
-/
import Derived.Test.YtgkelbdgdhkeoaaChecked
import GoSem.Claim
import GoSem.ClaimJoined
import GoSem.ClaimMapViews
import Derived.JoinedTies
import Derived.KernelRfl
namespace Go.Proofs.Ytgkelbdgdhkeoaa
/- THE CELL 'sum', in the pinned program and in every row, IS THE sha256 OF THE DUMP (.gsa) THAT YtgkelbdgdhkeoaaProg.lean LOADS. Nothing in Lean hashes anything: it is a label: what it is worth is what the hold of that sum in a sandbox is worth. -/
noncomputable def Try.pinned : Pinned := { name := "ytgkelbdgdhkeoaa", sum := "15a196da95c5736c4508781318cec608875ce17fcc12b6c25ed89c35a4dfcdf4", checked := Try.checked }
namespace Rows
def none {H : Type} : Left H := { results := [], args := [] }

/-- 'voilelaw13.CommandOps': WHATEVER THE INPUT: true; the input reads as it did. -/
def commandOpsSpec : ChangeSpec := { name := "commandOps", fn := fun _ => fun
  | [d1, d2] => { results := [.lit (.bool true)], args := [d1, d2] }
  | _ => none }
def commandOpsRow : OpenClaim := { program := "ytgkelbdgdhkeoaa", sum := "15a196da95c5736c4508781318cec608875ce17fcc12b6c25ed89c35a4dfcdf4", func := "voile/voilelaw13.CommandOps", spec := "commandOps", inPlace := ["internal/bytealg.IndexByteString", "internal/bytealg.IndexString"], named := ["internal/bytealg.MaxLen"], apart := false }
def CommandOpsSaid : Prop := commandOpsRow.holds Try.pinned (OpenSpec.ofChange commandOpsSpec)

/-- ITS FALSE NEIGHBOUR: 'it returns false'. Refute it at one input. -/
def commandOpsWrong : ChangeSpec := { name := "commandOps", fn := fun _ => fun
  | [d1, d2] => { results := [.lit (.bool false)], args := [d1, d2] }
  | _ => none }
def CommandOpsWrongFalsely : Prop := commandOpsRow.holds Try.pinned (OpenSpec.ofChange commandOpsWrong)

/-- 'voilelaw13.CommandParts': WHATEVER THE INPUT: true; the input reads as it did. -/
def commandPartsSpec : ChangeSpec := { name := "commandParts", fn := fun _ => fun
  | [d] => { results := [.lit (.bool true)], args := [d] }
  | _ => none }
def commandPartsRow : OpenClaim := { program := "ytgkelbdgdhkeoaa", sum := "15a196da95c5736c4508781318cec608875ce17fcc12b6c25ed89c35a4dfcdf4", func := "voile/voilelaw13.CommandParts", spec := "commandParts", inPlace := ["internal/bytealg.IndexByteString", "internal/bytealg.IndexString"], named := ["internal/bytealg.MaxLen"], apart := false }
def CommandPartsSaid : Prop := commandPartsRow.holds Try.pinned (OpenSpec.ofChange commandPartsSpec)

/-- ITS FALSE NEIGHBOUR: 'it returns false'. Refute it at one input. -/
def commandPartsWrong : ChangeSpec := { name := "commandParts", fn := fun _ => fun
  | [d] => { results := [.lit (.bool false)], args := [d] }
  | _ => none }
def CommandPartsWrongFalsely : Prop := commandPartsRow.holds Try.pinned (OpenSpec.ofChange commandPartsWrong)

/-- 'voilelaw13.CommandAnswers': WHATEVER THE INPUT: true; the input reads as it did. -/
def commandAnswersSpec : ChangeSpec := { name := "commandAnswers", fn := fun _ => fun
  | [d1, d2] => { results := [.lit (.bool true)], args := [d1, d2] }
  | _ => none }
def commandAnswersRow : OpenClaim := { program := "ytgkelbdgdhkeoaa", sum := "15a196da95c5736c4508781318cec608875ce17fcc12b6c25ed89c35a4dfcdf4", func := "voile/voilelaw13.CommandAnswers", spec := "commandAnswers", inPlace := ["internal/bytealg.IndexByteString", "internal/bytealg.IndexString"], named := ["internal/bytealg.MaxLen"], apart := false }
def CommandAnswersSaid : Prop := commandAnswersRow.holds Try.pinned (OpenSpec.ofChange commandAnswersSpec)

/-- ITS FALSE NEIGHBOUR: 'it returns false'. Refute it at one input. -/
def commandAnswersWrong : ChangeSpec := { name := "commandAnswers", fn := fun _ => fun
  | [d1, d2] => { results := [.lit (.bool false)], args := [d1, d2] }
  | _ => none }
def CommandAnswersWrongFalsely : Prop := commandAnswersRow.holds Try.pinned (OpenSpec.ofChange commandAnswersWrong)

/-- 'voilelaw01.WireTexts': WHATEVER THE INPUT: true; the input reads as it did. -/
def wireTextsSpec : ChangeSpec := { name := "wireTexts", fn := fun _ => fun
  | [d1, d2, d3] => { results := [.lit (.bool true)], args := [d1, d2, d3] }
  | _ => none }
def wireTextsRow : OpenClaim := { program := "ytgkelbdgdhkeoaa", sum := "15a196da95c5736c4508781318cec608875ce17fcc12b6c25ed89c35a4dfcdf4", func := "voile/voilelaw01.WireTexts", spec := "wireTexts", inPlace := ["internal/bytealg.IndexByteString", "internal/bytealg.IndexString", "internal/abi.NoEscape"], unfollowed := true, recurses := true, named := ["internal/bytealg.MaxLen"], apart := false }
def WireTextsSaid : Prop := wireTextsRow.holds Try.pinned (OpenSpec.ofChange wireTextsSpec)

/-- ITS FALSE NEIGHBOUR: 'it returns false'. Refute it at one input. -/
def wireTextsWrong : ChangeSpec := { name := "wireTexts", fn := fun _ => fun
  | [d1, d2, d3] => { results := [.lit (.bool false)], args := [d1, d2, d3] }
  | _ => none }
def WireTextsWrongFalsely : Prop := wireTextsRow.holds Try.pinned (OpenSpec.ofChange wireTextsWrong)

/-- 'voilelaw13.CommandReads': WHATEVER THE INPUT: true; the input reads as it did. -/
def commandReadsSpec : ChangeSpec := { name := "commandReads", fn := fun _ => fun
  | [d1, d2] => { results := [.lit (.bool true)], args := [d1, d2] }
  | _ => none }
def commandReadsRow : OpenClaim := { program := "ytgkelbdgdhkeoaa", sum := "15a196da95c5736c4508781318cec608875ce17fcc12b6c25ed89c35a4dfcdf4", func := "voile/voilelaw13.CommandReads", spec := "commandReads", inPlace := ["internal/bytealg.IndexByteString", "internal/bytealg.IndexString"], unfollowed := true, recurses := true, named := ["internal/bytealg.MaxLen"], apart := false }
def CommandReadsSaid : Prop := commandReadsRow.holds Try.pinned (OpenSpec.ofChange commandReadsSpec)

/-- ITS FALSE NEIGHBOUR: 'it returns false'. Refute it at one input. -/
def commandReadsWrong : ChangeSpec := { name := "commandReads", fn := fun _ => fun
  | [d1, d2] => { results := [.lit (.bool false)], args := [d1, d2] }
  | _ => none }
def CommandReadsWrongFalsely : Prop := commandReadsRow.holds Try.pinned (OpenSpec.ofChange commandReadsWrong)

/-- 'voilelaw13.CommandMeans': WHATEVER THE INPUT: true; the input reads as it did. -/
def commandMeansSpec : ChangeSpec := { name := "commandMeans", fn := fun _ => fun
  | [d1, d2, d3, d4, d5] => { results := [.lit (.bool true)], args := [d1, d2, d3, d4, d5] }
  | _ => none }
def commandMeansRow : OpenClaim := { program := "ytgkelbdgdhkeoaa", sum := "15a196da95c5736c4508781318cec608875ce17fcc12b6c25ed89c35a4dfcdf4", func := "voile/voilelaw13.CommandMeans", spec := "commandMeans", inPlace := ["internal/bytealg.IndexByteString", "internal/bytealg.IndexString"], unfollowed := true, recurses := true, named := ["internal/bytealg.MaxLen"], apart := false }
def CommandMeansSaid : Prop := commandMeansRow.holds Try.pinned (OpenSpec.ofChange commandMeansSpec)

/-- ITS FALSE NEIGHBOUR: 'it returns false'. Refute it at one input. -/
def commandMeansWrong : ChangeSpec := { name := "commandMeans", fn := fun _ => fun
  | [d1, d2, d3, d4, d5] => { results := [.lit (.bool false)], args := [d1, d2, d3, d4, d5] }
  | _ => none }
def CommandMeansWrongFalsely : Prop := commandMeansRow.holds Try.pinned (OpenSpec.ofChange commandMeansWrong)

/-- 'voilelaw19.MessageTells': WHATEVER THE INPUT: true; the input reads as it did. -/
def messageTellsSpec : ChangeSpec := { name := "messageTells", fn := fun _ => fun
  | [d1, d2] => { results := [.lit (.bool true)], args := [d1, d2] }
  | _ => none }
def messageTellsRow : OpenClaim := { program := "ytgkelbdgdhkeoaa", sum := "15a196da95c5736c4508781318cec608875ce17fcc12b6c25ed89c35a4dfcdf4", func := "voile/voilelaw19.MessageTells", spec := "messageTells", inPlace := ["internal/bytealg.IndexByteString", "internal/bytealg.IndexString"], named := ["internal/bytealg.MaxLen"], apart := false }
def MessageTellsSaid : Prop := messageTellsRow.holds Try.pinned (OpenSpec.ofChange messageTellsSpec)

/-- ITS FALSE NEIGHBOUR: 'it returns false'. Refute it at one input. -/
def messageTellsWrong : ChangeSpec := { name := "messageTells", fn := fun _ => fun
  | [d1, d2] => { results := [.lit (.bool false)], args := [d1, d2] }
  | _ => none }
def MessageTellsWrongFalsely : Prop := messageTellsRow.holds Try.pinned (OpenSpec.ofChange messageTellsWrong)

/-- 'voilelaw20.NetCopies': WHATEVER THE INPUT: true; the input reads as it did. -/
def netCopiesSpec : ChangeSpec := { name := "netCopies", fn := fun _ => fun
  | [d1, d2, d3] => { results := [.lit (.bool true)], args := [d1, d2, d3] }
  | _ => none }
def netCopiesRow : OpenClaim := { program := "ytgkelbdgdhkeoaa", sum := "15a196da95c5736c4508781318cec608875ce17fcc12b6c25ed89c35a4dfcdf4", func := "voile/voilelaw20.NetCopies", spec := "netCopies", unfollowed := true, recurses := true, apart := false }
def NetCopiesSaid : Prop := netCopiesRow.holds Try.pinned (OpenSpec.ofChange netCopiesSpec)

/-- ITS FALSE NEIGHBOUR: 'it returns false'. Refute it at one input. -/
def netCopiesWrong : ChangeSpec := { name := "netCopies", fn := fun _ => fun
  | [d1, d2, d3] => { results := [.lit (.bool false)], args := [d1, d2, d3] }
  | _ => none }
def NetCopiesWrongFalsely : Prop := netCopiesRow.holds Try.pinned (OpenSpec.ofChange netCopiesWrong)

/-- 'voilelaw20.NetMeans': WHATEVER THE INPUT: true; the input reads as it did. -/
def netMeansSpec : ChangeSpec := { name := "netMeans", fn := fun _ => fun
  | [d] => { results := [.lit (.bool true)], args := [d] }
  | _ => none }
def netMeansRow : OpenClaim := { program := "ytgkelbdgdhkeoaa", sum := "15a196da95c5736c4508781318cec608875ce17fcc12b6c25ed89c35a4dfcdf4", func := "voile/voilelaw20.NetMeans", spec := "netMeans", unfollowed := true, recurses := true, apart := false }
def NetMeansSaid : Prop := netMeansRow.holds Try.pinned (OpenSpec.ofChange netMeansSpec)

/-- ITS FALSE NEIGHBOUR: 'it returns false'. Refute it at one input. -/
def netMeansWrong : ChangeSpec := { name := "netMeans", fn := fun _ => fun
  | [d] => { results := [.lit (.bool false)], args := [d] }
  | _ => none }
def NetMeansWrongFalsely : Prop := netMeansRow.holds Try.pinned (OpenSpec.ofChange netMeansWrong)

/-- 'voilelaw20.NetNil': WHATEVER THE INPUT: true; the input reads as it did. -/
def netNilSpec : ChangeSpec := { name := "netNil", fn := fun _ => fun
  | [] => { results := [.lit (.bool true)], args := [] }
  | _ => none }
def netNilRow : OpenClaim := { program := "ytgkelbdgdhkeoaa", sum := "15a196da95c5736c4508781318cec608875ce17fcc12b6c25ed89c35a4dfcdf4", func := "voile/voilelaw20.NetNil", spec := "netNil", unfollowed := true, recurses := true, apart := false }
def NetNilSaid : Prop := netNilRow.holds Try.pinned (OpenSpec.ofChange netNilSpec)

/-- ITS FALSE NEIGHBOUR: 'it returns false'. Refute it at one input. -/
def netNilWrong : ChangeSpec := { name := "netNil", fn := fun _ => fun
  | [] => { results := [.lit (.bool false)], args := [] }
  | _ => none }
def NetNilWrongFalsely : Prop := netNilRow.holds Try.pinned (OpenSpec.ofChange netNilWrong)

/-- 'voilelaw19.MessageSpeaks': WHATEVER THE INPUT: true; the input reads as it did. -/
def messageSpeaksSpec : ChangeSpec := { name := "messageSpeaks", fn := fun _ => fun
  | [d] => { results := [.lit (.bool true)], args := [d] }
  | _ => none }
def messageSpeaksRow : OpenClaim := { program := "ytgkelbdgdhkeoaa", sum := "15a196da95c5736c4508781318cec608875ce17fcc12b6c25ed89c35a4dfcdf4", func := "voile/voilelaw19.MessageSpeaks", spec := "messageSpeaks", inPlace := ["internal/bytealg.IndexByteString", "internal/bytealg.IndexString"], unfollowed := true, recurses := true, named := ["internal/bytealg.MaxLen"], apart := false }
def MessageSpeaksSaid : Prop := messageSpeaksRow.holds Try.pinned (OpenSpec.ofChange messageSpeaksSpec)

/-- ITS FALSE NEIGHBOUR: 'it returns false'. Refute it at one input. -/
def messageSpeaksWrong : ChangeSpec := { name := "messageSpeaks", fn := fun _ => fun
  | [d] => { results := [.lit (.bool false)], args := [d] }
  | _ => none }
def MessageSpeaksWrongFalsely : Prop := messageSpeaksRow.holds Try.pinned (OpenSpec.ofChange messageSpeaksWrong)

/-- 'voilelaw19.MessageHears': WHATEVER THE INPUT: true; the input reads as it did. -/
def messageHearsSpec : ChangeSpec := { name := "messageHears", fn := fun _ => fun
  | [d] => { results := [.lit (.bool true)], args := [d] }
  | _ => none }
def messageHearsRow : OpenClaim := { program := "ytgkelbdgdhkeoaa", sum := "15a196da95c5736c4508781318cec608875ce17fcc12b6c25ed89c35a4dfcdf4", func := "voile/voilelaw19.MessageHears", spec := "messageHears", inPlace := ["internal/bytealg.IndexByteString", "internal/bytealg.IndexString"], unfollowed := true, recurses := true, named := ["internal/bytealg.MaxLen"], apart := false }
def MessageHearsSaid : Prop := messageHearsRow.holds Try.pinned (OpenSpec.ofChange messageHearsSpec)

/-- ITS FALSE NEIGHBOUR: 'it returns false'. Refute it at one input. -/
def messageHearsWrong : ChangeSpec := { name := "messageHears", fn := fun _ => fun
  | [d] => { results := [.lit (.bool false)], args := [d] }
  | _ => none }
def MessageHearsWrongFalsely : Prop := messageHearsRow.holds Try.pinned (OpenSpec.ofChange messageHearsWrong)

/-- 'voilelaw19.MessageEnds': WHATEVER THE INPUT: true; the input reads as it did. -/
def messageEndsSpec : ChangeSpec := { name := "messageEnds", fn := fun _ => fun
  | [d1, d2] => { results := [.lit (.bool true)], args := [d1, d2] }
  | _ => none }
def messageEndsRow : OpenClaim := { program := "ytgkelbdgdhkeoaa", sum := "15a196da95c5736c4508781318cec608875ce17fcc12b6c25ed89c35a4dfcdf4", func := "voile/voilelaw19.MessageEnds", spec := "messageEnds", inPlace := ["internal/bytealg.IndexByteString", "internal/bytealg.IndexString"], unfollowed := true, recurses := true, named := ["internal/bytealg.MaxLen"], apart := false }
def MessageEndsSaid : Prop := messageEndsRow.holds Try.pinned (OpenSpec.ofChange messageEndsSpec)

/-- ITS FALSE NEIGHBOUR: 'it returns false'. Refute it at one input. -/
def messageEndsWrong : ChangeSpec := { name := "messageEnds", fn := fun _ => fun
  | [d1, d2] => { results := [.lit (.bool false)], args := [d1, d2] }
  | _ => none }
def MessageEndsWrongFalsely : Prop := messageEndsRow.holds Try.pinned (OpenSpec.ofChange messageEndsWrong)

/-- 'voilelaw19.MessageItems': WHATEVER THE INPUT: true; the input reads as it did. -/
def messageItemsSpec : ChangeSpec := { name := "messageItems", fn := fun _ => fun
  | [d1, d2, d3] => { results := [.lit (.bool true)], args := [d1, d2, d3] }
  | _ => none }
def messageItemsRow : OpenClaim := { program := "ytgkelbdgdhkeoaa", sum := "15a196da95c5736c4508781318cec608875ce17fcc12b6c25ed89c35a4dfcdf4", func := "voile/voilelaw19.MessageItems", spec := "messageItems", inPlace := ["internal/bytealg.IndexByteString", "internal/bytealg.IndexString"], unfollowed := true, recurses := true, named := ["internal/bytealg.MaxLen"], apart := false }
def MessageItemsSaid : Prop := messageItemsRow.holds Try.pinned (OpenSpec.ofChange messageItemsSpec)

/-- ITS FALSE NEIGHBOUR: 'it returns false'. Refute it at one input. -/
def messageItemsWrong : ChangeSpec := { name := "messageItems", fn := fun _ => fun
  | [d1, d2, d3] => { results := [.lit (.bool false)], args := [d1, d2, d3] }
  | _ => none }
def MessageItemsWrongFalsely : Prop := messageItemsRow.holds Try.pinned (OpenSpec.ofChange messageItemsWrong)

/- THE SECOND FORM. 'bulk': how many values and letters a reading holds, each counted each time it is reached (what is shared counts as often as it is met; a slice's spare places count too). A statement '..UptoSaid' is the law's where the arguments, and the package variables that the reading takes, are together of bulk at most 1048576: NARROWER than '..Said'. Prove '..Said' where nothing that the law and all that it calls make is longer than what came in: it says more and counts as full. Else prove '..UptoSaid'. A law counts once. -/
mutual
def uptoBulk {H : Type} : DataW H → Nat
  | .lit (.string bytes) => bytes.length + 1
  | .lit _ => 1
  | .nil => 1
  | .ptr d => uptoBulk d + 1
  | .slice elems spare => uptoBulkAll elems + uptoBulkAll spare + 1
  | .agg parts => uptoBulkAll parts + 1
  | .iface _ d => uptoBulk d + 1
  | .map entries => uptoBulkEntries entries + 1
  | .held _ => 1
def uptoBulkAll {H : Type} : List (DataW H) → Nat
  | [] => 0
  | d :: r => uptoBulk d + uptoBulkAll r
def uptoBulkEntries {H : Type} : List (Lit × DataW H) → Nat
  | [] => 0
  | x :: r => uptoBulkEntry x + uptoBulkEntries r
def uptoBulkEntry {H : Type} : Lit × DataW H → Nat
  | (.string bytes, d) => bytes.length + uptoBulk d + 1
  | (_, d) => uptoBulk d + 1
 end
def uptoSmall : (H : Type) → List (DataW H) → Bool := fun _ ds => decide (uptoBulkAll ds ≤ 1048576)
def OpenSpec.upto (s : _root_.Go.ChangeSpec) : _root_.Go.OpenSpec := { _root_.Go.OpenSpec.ofChange s with cond := some uptoSmall }

/-- 'voilelaw13.CommandOps', WHERE WHAT IT READS IS OF BULK AT MOST 1048576: true; the input reads as it did. -/
def commandOpsUptoRow : OpenClaim := { program := "ytgkelbdgdhkeoaa", sum := "15a196da95c5736c4508781318cec608875ce17fcc12b6c25ed89c35a4dfcdf4", func := "voile/voilelaw13.CommandOps", spec := "commandOps", inPlace := ["internal/bytealg.IndexByteString", "internal/bytealg.IndexString"], named := ["internal/bytealg.MaxLen"], apart := false, narrowed := true }
def CommandOpsUptoSaid : Prop := commandOpsUptoRow.holds Try.pinned (OpenSpec.upto commandOpsSpec)

/-- 'voilelaw13.CommandParts', WHERE WHAT IT READS IS OF BULK AT MOST 1048576: true; the input reads as it did. -/
def commandPartsUptoRow : OpenClaim := { program := "ytgkelbdgdhkeoaa", sum := "15a196da95c5736c4508781318cec608875ce17fcc12b6c25ed89c35a4dfcdf4", func := "voile/voilelaw13.CommandParts", spec := "commandParts", inPlace := ["internal/bytealg.IndexByteString", "internal/bytealg.IndexString"], named := ["internal/bytealg.MaxLen"], apart := false, narrowed := true }
def CommandPartsUptoSaid : Prop := commandPartsUptoRow.holds Try.pinned (OpenSpec.upto commandPartsSpec)

/-- 'voilelaw13.CommandAnswers', WHERE WHAT IT READS IS OF BULK AT MOST 1048576: true; the input reads as it did. -/
def commandAnswersUptoRow : OpenClaim := { program := "ytgkelbdgdhkeoaa", sum := "15a196da95c5736c4508781318cec608875ce17fcc12b6c25ed89c35a4dfcdf4", func := "voile/voilelaw13.CommandAnswers", spec := "commandAnswers", inPlace := ["internal/bytealg.IndexByteString", "internal/bytealg.IndexString"], named := ["internal/bytealg.MaxLen"], apart := false, narrowed := true }
def CommandAnswersUptoSaid : Prop := commandAnswersUptoRow.holds Try.pinned (OpenSpec.upto commandAnswersSpec)

/-- 'voilelaw01.WireTexts', WHERE WHAT IT READS IS OF BULK AT MOST 1048576: true; the input reads as it did. -/
def wireTextsUptoRow : OpenClaim := { program := "ytgkelbdgdhkeoaa", sum := "15a196da95c5736c4508781318cec608875ce17fcc12b6c25ed89c35a4dfcdf4", func := "voile/voilelaw01.WireTexts", spec := "wireTexts", inPlace := ["internal/bytealg.IndexByteString", "internal/bytealg.IndexString", "internal/abi.NoEscape"], unfollowed := true, recurses := true, named := ["internal/bytealg.MaxLen"], apart := false, narrowed := true }
def WireTextsUptoSaid : Prop := wireTextsUptoRow.holds Try.pinned (OpenSpec.upto wireTextsSpec)

/-- 'voilelaw13.CommandReads', WHERE WHAT IT READS IS OF BULK AT MOST 1048576: true; the input reads as it did. -/
def commandReadsUptoRow : OpenClaim := { program := "ytgkelbdgdhkeoaa", sum := "15a196da95c5736c4508781318cec608875ce17fcc12b6c25ed89c35a4dfcdf4", func := "voile/voilelaw13.CommandReads", spec := "commandReads", inPlace := ["internal/bytealg.IndexByteString", "internal/bytealg.IndexString"], unfollowed := true, recurses := true, named := ["internal/bytealg.MaxLen"], apart := false, narrowed := true }
def CommandReadsUptoSaid : Prop := commandReadsUptoRow.holds Try.pinned (OpenSpec.upto commandReadsSpec)

/-- 'voilelaw13.CommandMeans', WHERE WHAT IT READS IS OF BULK AT MOST 1048576: true; the input reads as it did. -/
def commandMeansUptoRow : OpenClaim := { program := "ytgkelbdgdhkeoaa", sum := "15a196da95c5736c4508781318cec608875ce17fcc12b6c25ed89c35a4dfcdf4", func := "voile/voilelaw13.CommandMeans", spec := "commandMeans", inPlace := ["internal/bytealg.IndexByteString", "internal/bytealg.IndexString"], unfollowed := true, recurses := true, named := ["internal/bytealg.MaxLen"], apart := false, narrowed := true }
def CommandMeansUptoSaid : Prop := commandMeansUptoRow.holds Try.pinned (OpenSpec.upto commandMeansSpec)

/-- 'voilelaw19.MessageTells', WHERE WHAT IT READS IS OF BULK AT MOST 1048576: true; the input reads as it did. -/
def messageTellsUptoRow : OpenClaim := { program := "ytgkelbdgdhkeoaa", sum := "15a196da95c5736c4508781318cec608875ce17fcc12b6c25ed89c35a4dfcdf4", func := "voile/voilelaw19.MessageTells", spec := "messageTells", inPlace := ["internal/bytealg.IndexByteString", "internal/bytealg.IndexString"], named := ["internal/bytealg.MaxLen"], apart := false, narrowed := true }
def MessageTellsUptoSaid : Prop := messageTellsUptoRow.holds Try.pinned (OpenSpec.upto messageTellsSpec)

/-- 'voilelaw20.NetCopies', WHERE WHAT IT READS IS OF BULK AT MOST 1048576: true; the input reads as it did. -/
def netCopiesUptoRow : OpenClaim := { program := "ytgkelbdgdhkeoaa", sum := "15a196da95c5736c4508781318cec608875ce17fcc12b6c25ed89c35a4dfcdf4", func := "voile/voilelaw20.NetCopies", spec := "netCopies", unfollowed := true, recurses := true, apart := false, narrowed := true }
def NetCopiesUptoSaid : Prop := netCopiesUptoRow.holds Try.pinned (OpenSpec.upto netCopiesSpec)

/-- 'voilelaw20.NetMeans', WHERE WHAT IT READS IS OF BULK AT MOST 1048576: true; the input reads as it did. -/
def netMeansUptoRow : OpenClaim := { program := "ytgkelbdgdhkeoaa", sum := "15a196da95c5736c4508781318cec608875ce17fcc12b6c25ed89c35a4dfcdf4", func := "voile/voilelaw20.NetMeans", spec := "netMeans", unfollowed := true, recurses := true, apart := false, narrowed := true }
def NetMeansUptoSaid : Prop := netMeansUptoRow.holds Try.pinned (OpenSpec.upto netMeansSpec)

/-- 'voilelaw20.NetNil', WHERE WHAT IT READS IS OF BULK AT MOST 1048576: true; the input reads as it did. -/
def netNilUptoRow : OpenClaim := { program := "ytgkelbdgdhkeoaa", sum := "15a196da95c5736c4508781318cec608875ce17fcc12b6c25ed89c35a4dfcdf4", func := "voile/voilelaw20.NetNil", spec := "netNil", unfollowed := true, recurses := true, apart := false, narrowed := true }
def NetNilUptoSaid : Prop := netNilUptoRow.holds Try.pinned (OpenSpec.upto netNilSpec)

/-- 'voilelaw19.MessageSpeaks', WHERE WHAT IT READS IS OF BULK AT MOST 1048576: true; the input reads as it did. -/
def messageSpeaksUptoRow : OpenClaim := { program := "ytgkelbdgdhkeoaa", sum := "15a196da95c5736c4508781318cec608875ce17fcc12b6c25ed89c35a4dfcdf4", func := "voile/voilelaw19.MessageSpeaks", spec := "messageSpeaks", inPlace := ["internal/bytealg.IndexByteString", "internal/bytealg.IndexString"], unfollowed := true, recurses := true, named := ["internal/bytealg.MaxLen"], apart := false, narrowed := true }
def MessageSpeaksUptoSaid : Prop := messageSpeaksUptoRow.holds Try.pinned (OpenSpec.upto messageSpeaksSpec)

/-- 'voilelaw19.MessageHears', WHERE WHAT IT READS IS OF BULK AT MOST 1048576: true; the input reads as it did. -/
def messageHearsUptoRow : OpenClaim := { program := "ytgkelbdgdhkeoaa", sum := "15a196da95c5736c4508781318cec608875ce17fcc12b6c25ed89c35a4dfcdf4", func := "voile/voilelaw19.MessageHears", spec := "messageHears", inPlace := ["internal/bytealg.IndexByteString", "internal/bytealg.IndexString"], unfollowed := true, recurses := true, named := ["internal/bytealg.MaxLen"], apart := false, narrowed := true }
def MessageHearsUptoSaid : Prop := messageHearsUptoRow.holds Try.pinned (OpenSpec.upto messageHearsSpec)

/-- 'voilelaw19.MessageEnds', WHERE WHAT IT READS IS OF BULK AT MOST 1048576: true; the input reads as it did. -/
def messageEndsUptoRow : OpenClaim := { program := "ytgkelbdgdhkeoaa", sum := "15a196da95c5736c4508781318cec608875ce17fcc12b6c25ed89c35a4dfcdf4", func := "voile/voilelaw19.MessageEnds", spec := "messageEnds", inPlace := ["internal/bytealg.IndexByteString", "internal/bytealg.IndexString"], unfollowed := true, recurses := true, named := ["internal/bytealg.MaxLen"], apart := false, narrowed := true }
def MessageEndsUptoSaid : Prop := messageEndsUptoRow.holds Try.pinned (OpenSpec.upto messageEndsSpec)

/-- 'voilelaw19.MessageItems', WHERE WHAT IT READS IS OF BULK AT MOST 1048576: true; the input reads as it did. -/
def messageItemsUptoRow : OpenClaim := { program := "ytgkelbdgdhkeoaa", sum := "15a196da95c5736c4508781318cec608875ce17fcc12b6c25ed89c35a4dfcdf4", func := "voile/voilelaw19.MessageItems", spec := "messageItems", inPlace := ["internal/bytealg.IndexByteString", "internal/bytealg.IndexString"], unfollowed := true, recurses := true, named := ["internal/bytealg.MaxLen"], apart := false, narrowed := true }
def MessageItemsUptoSaid : Prop := messageItemsUptoRow.holds Try.pinned (OpenSpec.upto messageItemsSpec)

end Rows
end Go.Proofs.Ytgkelbdgdhkeoaa
