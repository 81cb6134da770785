/-
  No cell of these rows narrows 'for every input' (looked for: loops, veiled, ifaces, maps, wideKeys, modest, calm, conditions, laid).
  DERIVED. THE GIVEN ROWS OF THIS SEAT. 10 by the template 'for every input the law returns true; each argument reads behind the call as it read before'; 0 by the template 'total and deterministic' (their statements: YtfmmmfddpfddoaaTotals.lean).
  GIVEN WITH THE SEED: the statements are not yours to turn. If you find one false, say at which input.
  Laid BY PROGRAM, IN A SANDBOX (cutbox-rows.mjs): the forced cells as the released guide's own fill.sh prints them over the translation 945f1fa9ae1928da… (all of the seat's roots in one cut). By AI agents, Wed Nov 11 2026. No macro, syntax, notation, axiom, sorry.
-/
import Derived.Test.YtfmmmfddpfddoaaChecked
import GoSem.Claim
import GoSem.ClaimJoined
import GoSem.ClaimMapViews
import Derived.JoinedTies
import Derived.KernelRfl
namespace Go.Proofs.Ytfmmmfddpfddoaa
/- THE CELL 'sum', in the pinned program and in every row, IS THE sha256 OF THE DUMP (.gsa) THAT YtfmmmfddpfddoaaProg.lean LOADS. Nothing in Lean hashes anything: it is a label: what it is worth is what the hold of that sum in a sandbox is worth. -/
noncomputable def Try.pinned : Pinned := { name := "ytfmmmfddpfddoaa", sum := "945f1fa9ae1928da45a43646968804e4aacb6eadfd393276b9d40195d8a61969", checked := Try.checked }
namespace Rows
def none {H : Type} : Left H := { results := [], args := [] }

/-- 'laws.FnExactFMin': WHATEVER THE INPUT: true; the input reads as it did. -/
def fnExactFMinSpec : ChangeSpec := { name := "fnExactFMin", fn := fun _ => fun
  | [d1, d2, d3] => { results := [.lit (.bool true)], args := [d1, d2, d3] }
  | _ => none }
def fnExactFMinRow : OpenClaim := { program := "ytfmmmfddpfddoaa", sum := "945f1fa9ae1928da45a43646968804e4aacb6eadfd393276b9d40195d8a61969", func := "loop.example/g00209/laws.FnExactFMin", spec := "fnExactFMin", apart := false }
def FnExactFMinSaid : Prop := fnExactFMinRow.holds Try.pinned (OpenSpec.ofChange fnExactFMinSpec)

/-- ITS FALSE NEIGHBOUR: 'it returns false'. Refute it at one input. -/
def fnExactFMinWrong : ChangeSpec := { name := "fnExactFMin", fn := fun _ => fun
  | [d1, d2, d3] => { results := [.lit (.bool false)], args := [d1, d2, d3] }
  | _ => none }
def FnExactFMinWrongFalsely : Prop := fnExactFMinRow.holds Try.pinned (OpenSpec.ofChange fnExactFMinWrong)

/-- 'laws.FnExactEncodePoints': WHATEVER THE INPUT: true; the input reads as it did. -/
def fnExactEncodePointsSpec : ChangeSpec := { name := "fnExactEncodePoints", fn := fun _ => fun
  | [d1, d2] => { results := [.lit (.bool true)], args := [d1, d2] }
  | _ => none }
def fnExactEncodePointsRow : OpenClaim := { program := "ytfmmmfddpfddoaa", sum := "945f1fa9ae1928da45a43646968804e4aacb6eadfd393276b9d40195d8a61969", func := "loop.example/g00209/laws.FnExactEncodePoints", spec := "fnExactEncodePoints", apart := false }
def FnExactEncodePointsSaid : Prop := fnExactEncodePointsRow.holds Try.pinned (OpenSpec.ofChange fnExactEncodePointsSpec)

/-- ITS FALSE NEIGHBOUR: 'it returns false'. Refute it at one input. -/
def fnExactEncodePointsWrong : ChangeSpec := { name := "fnExactEncodePoints", fn := fun _ => fun
  | [d1, d2] => { results := [.lit (.bool false)], args := [d1, d2] }
  | _ => none }
def FnExactEncodePointsWrongFalsely : Prop := fnExactEncodePointsRow.holds Try.pinned (OpenSpec.ofChange fnExactEncodePointsWrong)

/-- 'laws.FnExactSectionsBytes': WHATEVER THE INPUT: true; the input reads as it did. -/
def fnExactSectionsBytesSpec : ChangeSpec := { name := "fnExactSectionsBytes", fn := fun _ => fun
  | [d] => { results := [.lit (.bool true)], args := [d] }
  | _ => none }
def fnExactSectionsBytesRow : OpenClaim := { program := "ytfmmmfddpfddoaa", sum := "945f1fa9ae1928da45a43646968804e4aacb6eadfd393276b9d40195d8a61969", func := "loop.example/g00209/laws.FnExactSectionsBytes", spec := "fnExactSectionsBytes", inPlace := ["internal/abi.NoEscape"], apart := false }
def FnExactSectionsBytesSaid : Prop := fnExactSectionsBytesRow.holds Try.pinned (OpenSpec.ofChange fnExactSectionsBytesSpec)

/-- ITS FALSE NEIGHBOUR: 'it returns false'. Refute it at one input. -/
def fnExactSectionsBytesWrong : ChangeSpec := { name := "fnExactSectionsBytes", fn := fun _ => fun
  | [d] => { results := [.lit (.bool false)], args := [d] }
  | _ => none }
def FnExactSectionsBytesWrongFalsely : Prop := fnExactSectionsBytesRow.holds Try.pinned (OpenSpec.ofChange fnExactSectionsBytesWrong)

/-- 'laws.FnExactReadSections': WHATEVER THE INPUT: true; the input reads as it did. -/
def fnExactReadSectionsSpec : ChangeSpec := { name := "fnExactReadSections", fn := fun _ => fun
  | [d] => { results := [.lit (.bool true)], args := [d] }
  | _ => none }
def fnExactReadSectionsRow : OpenClaim := { program := "ytfmmmfddpfddoaa", sum := "945f1fa9ae1928da45a43646968804e4aacb6eadfd393276b9d40195d8a61969", func := "loop.example/g00209/laws.FnExactReadSections", spec := "fnExactReadSections", apart := false }
def FnExactReadSectionsSaid : Prop := fnExactReadSectionsRow.holds Try.pinned (OpenSpec.ofChange fnExactReadSectionsSpec)

/-- ITS FALSE NEIGHBOUR: 'it returns false'. Refute it at one input. -/
def fnExactReadSectionsWrong : ChangeSpec := { name := "fnExactReadSections", fn := fun _ => fun
  | [d] => { results := [.lit (.bool false)], args := [d] }
  | _ => none }
def FnExactReadSectionsWrongFalsely : Prop := fnExactReadSectionsRow.holds Try.pinned (OpenSpec.ofChange fnExactReadSectionsWrong)

/-- 'laws.FnExactSizeAs': WHATEVER THE INPUT: true; the input reads as it did. -/
def fnExactSizeAsSpec : ChangeSpec := { name := "fnExactSizeAs", fn := fun _ => fun
  | [d1, d2] => { results := [.lit (.bool true)], args := [d1, d2] }
  | _ => none }
def fnExactSizeAsRow : OpenClaim := { program := "ytfmmmfddpfddoaa", sum := "945f1fa9ae1928da45a43646968804e4aacb6eadfd393276b9d40195d8a61969", func := "loop.example/g00209/laws.FnExactSizeAs", spec := "fnExactSizeAs", apart := false }
def FnExactSizeAsSaid : Prop := fnExactSizeAsRow.holds Try.pinned (OpenSpec.ofChange fnExactSizeAsSpec)

/-- ITS FALSE NEIGHBOUR: 'it returns false'. Refute it at one input. -/
def fnExactSizeAsWrong : ChangeSpec := { name := "fnExactSizeAs", fn := fun _ => fun
  | [d1, d2] => { results := [.lit (.bool false)], args := [d1, d2] }
  | _ => none }
def FnExactSizeAsWrongFalsely : Prop := fnExactSizeAsRow.holds Try.pinned (OpenSpec.ofChange fnExactSizeAsWrong)

/-- 'laws.FnExactCompactBytes': WHATEVER THE INPUT: true; the input reads as it did. -/
def fnExactCompactBytesSpec : ChangeSpec := { name := "fnExactCompactBytes", fn := fun _ => fun
  | [d] => { results := [.lit (.bool true)], args := [d] }
  | _ => none }
def fnExactCompactBytesRow : OpenClaim := { program := "ytfmmmfddpfddoaa", sum := "945f1fa9ae1928da45a43646968804e4aacb6eadfd393276b9d40195d8a61969", func := "loop.example/g00209/laws.FnExactCompactBytes", spec := "fnExactCompactBytes", apart := false }
def FnExactCompactBytesSaid : Prop := fnExactCompactBytesRow.holds Try.pinned (OpenSpec.ofChange fnExactCompactBytesSpec)

/-- ITS FALSE NEIGHBOUR: 'it returns false'. Refute it at one input. -/
def fnExactCompactBytesWrong : ChangeSpec := { name := "fnExactCompactBytes", fn := fun _ => fun
  | [d] => { results := [.lit (.bool false)], args := [d] }
  | _ => none }
def FnExactCompactBytesWrongFalsely : Prop := fnExactCompactBytesRow.holds Try.pinned (OpenSpec.ofChange fnExactCompactBytesWrong)

/-- 'laws.FnExactRoundFloat': WHATEVER THE INPUT: true; the input reads as it did. -/
def fnExactRoundFloatSpec : ChangeSpec := { name := "fnExactRoundFloat", fn := fun _ => fun
  | [d1, d2, d3, d4, d5] => { results := [.lit (.bool true)], args := [d1, d2, d3, d4, d5] }
  | _ => none }
def fnExactRoundFloatRow : OpenClaim := { program := "ytfmmmfddpfddoaa", sum := "945f1fa9ae1928da45a43646968804e4aacb6eadfd393276b9d40195d8a61969", func := "loop.example/g00209/laws.FnExactRoundFloat", spec := "fnExactRoundFloat", apart := false }
def FnExactRoundFloatSaid : Prop := fnExactRoundFloatRow.holds Try.pinned (OpenSpec.ofChange fnExactRoundFloatSpec)

/-- ITS FALSE NEIGHBOUR: 'it returns false'. Refute it at one input. -/
def fnExactRoundFloatWrong : ChangeSpec := { name := "fnExactRoundFloat", fn := fun _ => fun
  | [d1, d2, d3, d4, d5] => { results := [.lit (.bool false)], args := [d1, d2, d3, d4, d5] }
  | _ => none }
def FnExactRoundFloatWrongFalsely : Prop := fnExactRoundFloatRow.holds Try.pinned (OpenSpec.ofChange fnExactRoundFloatWrong)

/-- 'laws.FnExactNewMemory': WHATEVER THE INPUT: true; the input reads as it did. -/
def fnExactNewMemorySpec : ChangeSpec := { name := "fnExactNewMemory", fn := fun _ => fun
  | [d1, d2] => { results := [.lit (.bool true)], args := [d1, d2] }
  | _ => none }
def fnExactNewMemoryRow : OpenClaim := { program := "ytfmmmfddpfddoaa", sum := "945f1fa9ae1928da45a43646968804e4aacb6eadfd393276b9d40195d8a61969", func := "loop.example/g00209/laws.FnExactNewMemory", spec := "fnExactNewMemory", inPlace := ["internal/abi.NoEscape", "internal/bytealg.MakeNoZero"], apart := false }
def FnExactNewMemorySaid : Prop := fnExactNewMemoryRow.holds Try.pinned (OpenSpec.ofChange fnExactNewMemorySpec)

/-- ITS FALSE NEIGHBOUR: 'it returns false'. Refute it at one input. -/
def fnExactNewMemoryWrong : ChangeSpec := { name := "fnExactNewMemory", fn := fun _ => fun
  | [d1, d2] => { results := [.lit (.bool false)], args := [d1, d2] }
  | _ => none }
def FnExactNewMemoryWrongFalsely : Prop := fnExactNewMemoryRow.holds Try.pinned (OpenSpec.ofChange fnExactNewMemoryWrong)

/-- 'laws.FnExactFOfInt': WHATEVER THE INPUT: true; the input reads as it did. -/
def fnExactFOfIntSpec : ChangeSpec := { name := "fnExactFOfInt", fn := fun _ => fun
  | [d1, d2] => { results := [.lit (.bool true)], args := [d1, d2] }
  | _ => none }
def fnExactFOfIntRow : OpenClaim := { program := "ytfmmmfddpfddoaa", sum := "945f1fa9ae1928da45a43646968804e4aacb6eadfd393276b9d40195d8a61969", func := "loop.example/g00209/laws.FnExactFOfInt", spec := "fnExactFOfInt", apart := false }
def FnExactFOfIntSaid : Prop := fnExactFOfIntRow.holds Try.pinned (OpenSpec.ofChange fnExactFOfIntSpec)

/-- ITS FALSE NEIGHBOUR: 'it returns false'. Refute it at one input. -/
def fnExactFOfIntWrong : ChangeSpec := { name := "fnExactFOfInt", fn := fun _ => fun
  | [d1, d2] => { results := [.lit (.bool false)], args := [d1, d2] }
  | _ => none }
def FnExactFOfIntWrongFalsely : Prop := fnExactFOfIntRow.holds Try.pinned (OpenSpec.ofChange fnExactFOfIntWrong)

/-- 'laws.FnExactGrowMemory': WHATEVER THE INPUT: true; the input reads as it did. -/
def fnExactGrowMemorySpec : ChangeSpec := { name := "fnExactGrowMemory", fn := fun _ => fun
  | [d1, d2] => { results := [.lit (.bool true)], args := [d1, d2] }
  | _ => none }
def fnExactGrowMemoryRow : OpenClaim := { program := "ytfmmmfddpfddoaa", sum := "945f1fa9ae1928da45a43646968804e4aacb6eadfd393276b9d40195d8a61969", func := "loop.example/g00209/laws.FnExactGrowMemory", spec := "fnExactGrowMemory", inPlace := ["internal/abi.NoEscape", "internal/bytealg.MakeNoZero"], apart := false }
def FnExactGrowMemorySaid : Prop := fnExactGrowMemoryRow.holds Try.pinned (OpenSpec.ofChange fnExactGrowMemorySpec)

/-- ITS FALSE NEIGHBOUR: 'it returns false'. Refute it at one input. -/
def fnExactGrowMemoryWrong : ChangeSpec := { name := "fnExactGrowMemory", fn := fun _ => fun
  | [d1, d2] => { results := [.lit (.bool false)], args := [d1, d2] }
  | _ => none }
def FnExactGrowMemoryWrongFalsely : Prop := fnExactGrowMemoryRow.holds Try.pinned (OpenSpec.ofChange fnExactGrowMemoryWrong)

/- THE SECOND FORM. 'bulk': how many values and letters a reading holds, each counted each time it is reached (what is shared counts as often as it is met; a slice's spare places count too). A statement '..UptoSaid' is the law's where the arguments, and the package variables that the reading takes, are together of bulk at most 1048576: NARROWER than '..Said'. Prove '..Said' where nothing that the law and all that it calls make is longer than what came in: it says more and counts as full. Else prove '..UptoSaid'. A law counts once. -/
mutual
def uptoBulk {H : Type} : DataW H → Nat
  | .lit (.string bytes) => bytes.length + 1
  | .lit _ => 1
  | .nil => 1
  | .ptr d => uptoBulk d + 1
  | .slice elems spare => uptoBulkAll elems + uptoBulkAll spare + 1
  | .agg parts => uptoBulkAll parts + 1
  | .iface _ d => uptoBulk d + 1
  | .map entries => uptoBulkEntries entries + 1
  | .held _ => 1
def uptoBulkAll {H : Type} : List (DataW H) → Nat
  | [] => 0
  | d :: r => uptoBulk d + uptoBulkAll r
def uptoBulkEntries {H : Type} : List (Lit × DataW H) → Nat
  | [] => 0
  | x :: r => uptoBulkEntry x + uptoBulkEntries r
def uptoBulkEntry {H : Type} : Lit × DataW H → Nat
  | (.string bytes, d) => bytes.length + uptoBulk d + 1
  | (_, d) => uptoBulk d + 1
 end
def uptoSmall : (H : Type) → List (DataW H) → Bool := fun _ ds => decide (uptoBulkAll ds ≤ 1048576)
def OpenSpec.upto (s : _root_.Go.ChangeSpec) : _root_.Go.OpenSpec := { _root_.Go.OpenSpec.ofChange s with cond := some uptoSmall }

/-- 'laws.FnExactFMin', WHERE WHAT IT READS IS OF BULK AT MOST 1048576: true; the input reads as it did. -/
def fnExactFMinUptoRow : OpenClaim := { program := "ytfmmmfddpfddoaa", sum := "945f1fa9ae1928da45a43646968804e4aacb6eadfd393276b9d40195d8a61969", func := "loop.example/g00209/laws.FnExactFMin", spec := "fnExactFMin", apart := false, narrowed := true }
def FnExactFMinUptoSaid : Prop := fnExactFMinUptoRow.holds Try.pinned (OpenSpec.upto fnExactFMinSpec)

/-- 'laws.FnExactEncodePoints', WHERE WHAT IT READS IS OF BULK AT MOST 1048576: true; the input reads as it did. -/
def fnExactEncodePointsUptoRow : OpenClaim := { program := "ytfmmmfddpfddoaa", sum := "945f1fa9ae1928da45a43646968804e4aacb6eadfd393276b9d40195d8a61969", func := "loop.example/g00209/laws.FnExactEncodePoints", spec := "fnExactEncodePoints", apart := false, narrowed := true }
def FnExactEncodePointsUptoSaid : Prop := fnExactEncodePointsUptoRow.holds Try.pinned (OpenSpec.upto fnExactEncodePointsSpec)

/-- 'laws.FnExactSectionsBytes', WHERE WHAT IT READS IS OF BULK AT MOST 1048576: true; the input reads as it did. -/
def fnExactSectionsBytesUptoRow : OpenClaim := { program := "ytfmmmfddpfddoaa", sum := "945f1fa9ae1928da45a43646968804e4aacb6eadfd393276b9d40195d8a61969", func := "loop.example/g00209/laws.FnExactSectionsBytes", spec := "fnExactSectionsBytes", inPlace := ["internal/abi.NoEscape"], apart := false, narrowed := true }
def FnExactSectionsBytesUptoSaid : Prop := fnExactSectionsBytesUptoRow.holds Try.pinned (OpenSpec.upto fnExactSectionsBytesSpec)

/-- 'laws.FnExactReadSections', WHERE WHAT IT READS IS OF BULK AT MOST 1048576: true; the input reads as it did. -/
def fnExactReadSectionsUptoRow : OpenClaim := { program := "ytfmmmfddpfddoaa", sum := "945f1fa9ae1928da45a43646968804e4aacb6eadfd393276b9d40195d8a61969", func := "loop.example/g00209/laws.FnExactReadSections", spec := "fnExactReadSections", apart := false, narrowed := true }
def FnExactReadSectionsUptoSaid : Prop := fnExactReadSectionsUptoRow.holds Try.pinned (OpenSpec.upto fnExactReadSectionsSpec)

/-- 'laws.FnExactSizeAs', WHERE WHAT IT READS IS OF BULK AT MOST 1048576: true; the input reads as it did. -/
def fnExactSizeAsUptoRow : OpenClaim := { program := "ytfmmmfddpfddoaa", sum := "945f1fa9ae1928da45a43646968804e4aacb6eadfd393276b9d40195d8a61969", func := "loop.example/g00209/laws.FnExactSizeAs", spec := "fnExactSizeAs", apart := false, narrowed := true }
def FnExactSizeAsUptoSaid : Prop := fnExactSizeAsUptoRow.holds Try.pinned (OpenSpec.upto fnExactSizeAsSpec)

/-- 'laws.FnExactCompactBytes', WHERE WHAT IT READS IS OF BULK AT MOST 1048576: true; the input reads as it did. -/
def fnExactCompactBytesUptoRow : OpenClaim := { program := "ytfmmmfddpfddoaa", sum := "945f1fa9ae1928da45a43646968804e4aacb6eadfd393276b9d40195d8a61969", func := "loop.example/g00209/laws.FnExactCompactBytes", spec := "fnExactCompactBytes", apart := false, narrowed := true }
def FnExactCompactBytesUptoSaid : Prop := fnExactCompactBytesUptoRow.holds Try.pinned (OpenSpec.upto fnExactCompactBytesSpec)

/-- 'laws.FnExactRoundFloat', WHERE WHAT IT READS IS OF BULK AT MOST 1048576: true; the input reads as it did. -/
def fnExactRoundFloatUptoRow : OpenClaim := { program := "ytfmmmfddpfddoaa", sum := "945f1fa9ae1928da45a43646968804e4aacb6eadfd393276b9d40195d8a61969", func := "loop.example/g00209/laws.FnExactRoundFloat", spec := "fnExactRoundFloat", apart := false, narrowed := true }
def FnExactRoundFloatUptoSaid : Prop := fnExactRoundFloatUptoRow.holds Try.pinned (OpenSpec.upto fnExactRoundFloatSpec)

/-- 'laws.FnExactNewMemory', WHERE WHAT IT READS IS OF BULK AT MOST 1048576: true; the input reads as it did. -/
def fnExactNewMemoryUptoRow : OpenClaim := { program := "ytfmmmfddpfddoaa", sum := "945f1fa9ae1928da45a43646968804e4aacb6eadfd393276b9d40195d8a61969", func := "loop.example/g00209/laws.FnExactNewMemory", spec := "fnExactNewMemory", inPlace := ["internal/abi.NoEscape", "internal/bytealg.MakeNoZero"], apart := false, narrowed := true }
def FnExactNewMemoryUptoSaid : Prop := fnExactNewMemoryUptoRow.holds Try.pinned (OpenSpec.upto fnExactNewMemorySpec)

/-- 'laws.FnExactFOfInt', WHERE WHAT IT READS IS OF BULK AT MOST 1048576: true; the input reads as it did. -/
def fnExactFOfIntUptoRow : OpenClaim := { program := "ytfmmmfddpfddoaa", sum := "945f1fa9ae1928da45a43646968804e4aacb6eadfd393276b9d40195d8a61969", func := "loop.example/g00209/laws.FnExactFOfInt", spec := "fnExactFOfInt", apart := false, narrowed := true }
def FnExactFOfIntUptoSaid : Prop := fnExactFOfIntUptoRow.holds Try.pinned (OpenSpec.upto fnExactFOfIntSpec)

/-- 'laws.FnExactGrowMemory', WHERE WHAT IT READS IS OF BULK AT MOST 1048576: true; the input reads as it did. -/
def fnExactGrowMemoryUptoRow : OpenClaim := { program := "ytfmmmfddpfddoaa", sum := "945f1fa9ae1928da45a43646968804e4aacb6eadfd393276b9d40195d8a61969", func := "loop.example/g00209/laws.FnExactGrowMemory", spec := "fnExactGrowMemory", inPlace := ["internal/abi.NoEscape", "internal/bytealg.MakeNoZero"], apart := false, narrowed := true }
def FnExactGrowMemoryUptoSaid : Prop := fnExactGrowMemoryUptoRow.holds Try.pinned (OpenSpec.upto fnExactGrowMemorySpec)

end Rows
end Go.Proofs.Ytfmmmfddpfddoaa
