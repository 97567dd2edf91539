/-
  No cell of these rows narrows 'for every input' (looked for: loops, veiled, ifaces, maps, wideKeys, modest, calm, conditions, laid).
  DERIVED. THE GIVEN ROWS OF THIS SEAT. 5 by the template 'for every input the law returns true; each argument reads behind the call as it read before'; 0 by the template 'total and deterministic' (their statements: YthkmihedkddnmaaGreatTotals.lean).
  GIVEN WITH THE SEED: the statements are not yours to turn. If you find one false, say at which input.
  Laid BY PROGRAM, IN A SANDBOX (cutbox-rows.mjs): the forced cells as the released guide's own fill.sh prints them over the translation 20ef473a7fcb2815… (all of the seat's roots in one cut). By AI agents, Wed Nov 11 2026. No macro, syntax, notation, axiom, sorry.
-/
import Derived.Test.YthkmihedkddnmaaGreatChecked
import GoSem.Claim
import GoSem.ClaimJoined
import GoSem.ClaimMapViews
import Derived.JoinedTies
import Derived.KernelRfl
namespace Go.Proofs.YthkmihedkddnmaaGreat
/- THE CELL 'sum', in the pinned program and in every row, IS THE sha256 OF THE DUMP (.gsa) THAT YthkmihedkddnmaaGreatProg.lean LOADS. Nothing in Lean hashes anything: it is a label: what it is worth is what the hold of that sum in a sandbox is worth. -/
noncomputable def Tryz.pinned : Pinned := { name := "ythkmihedkddnmaagreat", sum := "20ef473a7fcb2815075468727d1a2a213cdbd767ceeeb040914934da5d6dcb69", checked := Tryz.checked }
namespace Rows
def none {H : Type} : Left H := { results := [], args := [] }

/-- 'voilelaw14.DevicePlays': WHATEVER THE INPUT: true; the input reads as it did. -/
def devicePlaysSpec : ChangeSpec := { name := "devicePlays", fn := fun _ => fun
  | [d1, d2] => { results := [.lit (.bool true)], args := [d1, d2] }
  | _ => none }
def devicePlaysRow : OpenClaim := { program := "ythkmihedkddnmaagreat", sum := "20ef473a7fcb2815075468727d1a2a213cdbd767ceeeb040914934da5d6dcb69", func := "voile/voilelaw14.DevicePlays", spec := "devicePlays", inPlace := ["maps.clone", "internal/bytealg.IndexByteString", "internal/bytealg.IndexString"], unfollowed := true, recurses := true, named := ["internal/bytealg.MaxLen"], apart := false }
def DevicePlaysSaid : Prop := devicePlaysRow.holds Tryz.pinned (OpenSpec.ofChange devicePlaysSpec)

/-- ITS FALSE NEIGHBOUR: 'it returns false'. Refute it at one input. -/
def devicePlaysWrong : ChangeSpec := { name := "devicePlays", fn := fun _ => fun
  | [d1, d2] => { results := [.lit (.bool false)], args := [d1, d2] }
  | _ => none }
def DevicePlaysWrongFalsely : Prop := devicePlaysRow.holds Tryz.pinned (OpenSpec.ofChange devicePlaysWrong)

/-- 'voilelaw14.DeviceParts': WHATEVER THE INPUT: true; the input reads as it did. -/
def devicePartsSpec : ChangeSpec := { name := "deviceParts", fn := fun _ => fun
  | [d1, d2, d3, d4, d5] => { results := [.lit (.bool true)], args := [d1, d2, d3, d4, d5] }
  | _ => none }
def devicePartsRow : OpenClaim := { program := "ythkmihedkddnmaagreat", sum := "20ef473a7fcb2815075468727d1a2a213cdbd767ceeeb040914934da5d6dcb69", func := "voile/voilelaw14.DeviceParts", spec := "deviceParts", inPlace := ["maps.clone", "internal/bytealg.IndexByteString", "internal/bytealg.IndexString"], unfollowed := true, recurses := true, named := ["internal/bytealg.MaxLen"], apart := false }
def DevicePartsSaid : Prop := devicePartsRow.holds Tryz.pinned (OpenSpec.ofChange devicePartsSpec)

/-- ITS FALSE NEIGHBOUR: 'it returns false'. Refute it at one input. -/
def devicePartsWrong : ChangeSpec := { name := "deviceParts", fn := fun _ => fun
  | [d1, d2, d3, d4, d5] => { results := [.lit (.bool false)], args := [d1, d2, d3, d4, d5] }
  | _ => none }
def DevicePartsWrongFalsely : Prop := devicePartsRow.holds Tryz.pinned (OpenSpec.ofChange devicePartsWrong)

/-- 'voilelaw14.DeviceNil': WHATEVER THE INPUT: true; the input reads as it did. -/
def deviceNilSpec : ChangeSpec := { name := "deviceNil", fn := fun _ => fun
  | [] => { results := [.lit (.bool true)], args := [] }
  | _ => none }
def deviceNilRow : OpenClaim := { program := "ythkmihedkddnmaagreat", sum := "20ef473a7fcb2815075468727d1a2a213cdbd767ceeeb040914934da5d6dcb69", func := "voile/voilelaw14.DeviceNil", spec := "deviceNil", inPlace := ["maps.clone", "internal/bytealg.IndexByteString", "internal/bytealg.IndexString"], unfollowed := true, recurses := true, named := ["internal/bytealg.MaxLen"], apart := false }
def DeviceNilSaid : Prop := deviceNilRow.holds Tryz.pinned (OpenSpec.ofChange deviceNilSpec)

/-- ITS FALSE NEIGHBOUR: 'it returns false'. Refute it at one input. -/
def deviceNilWrong : ChangeSpec := { name := "deviceNil", fn := fun _ => fun
  | [] => { results := [.lit (.bool false)], args := [] }
  | _ => none }
def DeviceNilWrongFalsely : Prop := deviceNilRow.holds Tryz.pinned (OpenSpec.ofChange deviceNilWrong)

/-- 'voilelaw14.DeviceBytes': WHATEVER THE INPUT: true; the input reads as it did. -/
def deviceBytesSpec : ChangeSpec := { name := "deviceBytes", fn := fun _ => fun
  | [d] => { results := [.lit (.bool true)], args := [d] }
  | _ => none }
def deviceBytesRow : OpenClaim := { program := "ythkmihedkddnmaagreat", sum := "20ef473a7fcb2815075468727d1a2a213cdbd767ceeeb040914934da5d6dcb69", func := "voile/voilelaw14.DeviceBytes", spec := "deviceBytes", inPlace := ["maps.clone", "internal/bytealg.IndexByteString", "internal/bytealg.IndexString"], unfollowed := true, recurses := true, named := ["internal/bytealg.MaxLen"], apart := false }
def DeviceBytesSaid : Prop := deviceBytesRow.holds Tryz.pinned (OpenSpec.ofChange deviceBytesSpec)

/-- ITS FALSE NEIGHBOUR: 'it returns false'. Refute it at one input. -/
def deviceBytesWrong : ChangeSpec := { name := "deviceBytes", fn := fun _ => fun
  | [d] => { results := [.lit (.bool false)], args := [d] }
  | _ => none }
def DeviceBytesWrongFalsely : Prop := deviceBytesRow.holds Tryz.pinned (OpenSpec.ofChange deviceBytesWrong)

/-- 'voilelaw14.DeviceApart': WHATEVER THE INPUT: true; the input reads as it did. -/
def deviceApartSpec : ChangeSpec := { name := "deviceApart", fn := fun _ => fun
  | [d1, d2] => { results := [.lit (.bool true)], args := [d1, d2] }
  | _ => none }
def deviceApartRow : OpenClaim := { program := "ythkmihedkddnmaagreat", sum := "20ef473a7fcb2815075468727d1a2a213cdbd767ceeeb040914934da5d6dcb69", func := "voile/voilelaw14.DeviceApart", spec := "deviceApart", inPlace := ["maps.clone", "internal/bytealg.IndexByteString", "internal/bytealg.IndexString"], unfollowed := true, recurses := true, named := ["internal/bytealg.MaxLen"], apart := false }
def DeviceApartSaid : Prop := deviceApartRow.holds Tryz.pinned (OpenSpec.ofChange deviceApartSpec)

/-- ITS FALSE NEIGHBOUR: 'it returns false'. Refute it at one input. -/
def deviceApartWrong : ChangeSpec := { name := "deviceApart", fn := fun _ => fun
  | [d1, d2] => { results := [.lit (.bool false)], args := [d1, d2] }
  | _ => none }
def DeviceApartWrongFalsely : Prop := deviceApartRow.holds Tryz.pinned (OpenSpec.ofChange deviceApartWrong)

/- THE SECOND FORM. 'bulk': how many values and letters a reading holds, each counted each time it is reached (what is shared counts as often as it is met; a slice's spare places count too). A statement '..UptoSaid' is the law's where the arguments, and the package variables that the reading takes, are together of bulk at most 1048576: NARROWER than '..Said'. Prove '..Said' where nothing that the law and all that it calls make is longer than what came in: it says more and counts as full. Else prove '..UptoSaid'. A law counts once. -/
mutual
def uptoBulk {H : Type} : DataW H → Nat
  | .lit (.string bytes) => bytes.length + 1
  | .lit _ => 1
  | .nil => 1
  | .ptr d => uptoBulk d + 1
  | .slice elems spare => uptoBulkAll elems + uptoBulkAll spare + 1
  | .agg parts => uptoBulkAll parts + 1
  | .iface _ d => uptoBulk d + 1
  | .map entries => uptoBulkEntries entries + 1
  | .held _ => 1
def uptoBulkAll {H : Type} : List (DataW H) → Nat
  | [] => 0
  | d :: r => uptoBulk d + uptoBulkAll r
def uptoBulkEntries {H : Type} : List (Lit × DataW H) → Nat
  | [] => 0
  | x :: r => uptoBulkEntry x + uptoBulkEntries r
def uptoBulkEntry {H : Type} : Lit × DataW H → Nat
  | (.string bytes, d) => bytes.length + uptoBulk d + 1
  | (_, d) => uptoBulk d + 1
 end
def uptoSmall : (H : Type) → List (DataW H) → Bool := fun _ ds => decide (uptoBulkAll ds ≤ 1048576)
def OpenSpec.upto (s : _root_.Go.ChangeSpec) : _root_.Go.OpenSpec := { _root_.Go.OpenSpec.ofChange s with cond := some uptoSmall }

/-- 'voilelaw14.DevicePlays', WHERE WHAT IT READS IS OF BULK AT MOST 1048576: true; the input reads as it did. -/
def devicePlaysUptoRow : OpenClaim := { program := "ythkmihedkddnmaagreat", sum := "20ef473a7fcb2815075468727d1a2a213cdbd767ceeeb040914934da5d6dcb69", func := "voile/voilelaw14.DevicePlays", spec := "devicePlays", inPlace := ["maps.clone", "internal/bytealg.IndexByteString", "internal/bytealg.IndexString"], unfollowed := true, recurses := true, named := ["internal/bytealg.MaxLen"], apart := false, narrowed := true }
def DevicePlaysUptoSaid : Prop := devicePlaysUptoRow.holds Tryz.pinned (OpenSpec.upto devicePlaysSpec)

/-- 'voilelaw14.DeviceParts', WHERE WHAT IT READS IS OF BULK AT MOST 1048576: true; the input reads as it did. -/
def devicePartsUptoRow : OpenClaim := { program := "ythkmihedkddnmaagreat", sum := "20ef473a7fcb2815075468727d1a2a213cdbd767ceeeb040914934da5d6dcb69", func := "voile/voilelaw14.DeviceParts", spec := "deviceParts", inPlace := ["maps.clone", "internal/bytealg.IndexByteString", "internal/bytealg.IndexString"], unfollowed := true, recurses := true, named := ["internal/bytealg.MaxLen"], apart := false, narrowed := true }
def DevicePartsUptoSaid : Prop := devicePartsUptoRow.holds Tryz.pinned (OpenSpec.upto devicePartsSpec)

/-- 'voilelaw14.DeviceNil', WHERE WHAT IT READS IS OF BULK AT MOST 1048576: true; the input reads as it did. -/
def deviceNilUptoRow : OpenClaim := { program := "ythkmihedkddnmaagreat", sum := "20ef473a7fcb2815075468727d1a2a213cdbd767ceeeb040914934da5d6dcb69", func := "voile/voilelaw14.DeviceNil", spec := "deviceNil", inPlace := ["maps.clone", "internal/bytealg.IndexByteString", "internal/bytealg.IndexString"], unfollowed := true, recurses := true, named := ["internal/bytealg.MaxLen"], apart := false, narrowed := true }
def DeviceNilUptoSaid : Prop := deviceNilUptoRow.holds Tryz.pinned (OpenSpec.upto deviceNilSpec)

/-- 'voilelaw14.DeviceBytes', WHERE WHAT IT READS IS OF BULK AT MOST 1048576: true; the input reads as it did. -/
def deviceBytesUptoRow : OpenClaim := { program := "ythkmihedkddnmaagreat", sum := "20ef473a7fcb2815075468727d1a2a213cdbd767ceeeb040914934da5d6dcb69", func := "voile/voilelaw14.DeviceBytes", spec := "deviceBytes", inPlace := ["maps.clone", "internal/bytealg.IndexByteString", "internal/bytealg.IndexString"], unfollowed := true, recurses := true, named := ["internal/bytealg.MaxLen"], apart := false, narrowed := true }
def DeviceBytesUptoSaid : Prop := deviceBytesUptoRow.holds Tryz.pinned (OpenSpec.upto deviceBytesSpec)

/-- 'voilelaw14.DeviceApart', WHERE WHAT IT READS IS OF BULK AT MOST 1048576: true; the input reads as it did. -/
def deviceApartUptoRow : OpenClaim := { program := "ythkmihedkddnmaagreat", sum := "20ef473a7fcb2815075468727d1a2a213cdbd767ceeeb040914934da5d6dcb69", func := "voile/voilelaw14.DeviceApart", spec := "deviceApart", inPlace := ["maps.clone", "internal/bytealg.IndexByteString", "internal/bytealg.IndexString"], unfollowed := true, recurses := true, named := ["internal/bytealg.MaxLen"], apart := false, narrowed := true }
def DeviceApartUptoSaid : Prop := deviceApartUptoRow.holds Tryz.pinned (OpenSpec.upto deviceApartSpec)

end Rows
end Go.Proofs.YthkmihedkddnmaaGreat
