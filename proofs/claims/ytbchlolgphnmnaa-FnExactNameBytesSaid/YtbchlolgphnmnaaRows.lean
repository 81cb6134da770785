/-
  No cell of these rows narrows 'for every input' (looked for: loops, veiled, ifaces, maps, wideKeys, modest, calm, conditions, laid).
  DERIVED. THE GIVEN ROWS OF THIS SEAT. 12 by the template 'for every input the law returns true; each argument reads behind the call as it read before'; 0 by the template 'total and deterministic' (their statements: YtbchlolgphnmnaaTotals.lean).
  GIVEN WITH THE SEED: the statements are not yours to turn. If you find one false, say at which input.
  Laid BY PROGRAM, IN A SANDBOX (cutbox-rows.mjs): the forced cells as the released guide's own fill.sh prints them over the translation ff016541a7c7d8ec… (all of the seat's roots in one cut). By AI agents, Wed Nov 11 2026. No macro, syntax, notation, axiom, sorry.
-/
import Derived.Test.YtbchlolgphnmnaaChecked
import GoSem.Claim
import GoSem.ClaimJoined
import GoSem.ClaimMapViews
import Derived.JoinedTies
import Derived.KernelRfl
namespace Go.Proofs.Ytbchlolgphnmnaa
/- THE CELL 'sum', in the pinned program and in every row, IS THE sha256 OF THE DUMP (.gsa) THAT YtbchlolgphnmnaaProg.lean LOADS. Nothing in Lean hashes anything: it is a label: what it is worth is what the hold of that sum in a sandbox is worth. -/
noncomputable def Try.pinned : Pinned := { name := "ytbchlolgphnmnaa", sum := "ff016541a7c7d8ec09e3ce3bc1b4688fd99a0bf53498a9f4bef8e0e042b90b08", checked := Try.checked }
namespace Rows
def none {H : Type} : Left H := { results := [], args := [] }

/-- 'laws.FnExactConstants': WHATEVER THE INPUT: true; the input reads as it did. -/
def fnExactConstantsSpec : ChangeSpec := { name := "fnExactConstants", fn := fun _ => fun
  | [] => { results := [.lit (.bool true)], args := [] }
  | _ => none }
def fnExactConstantsRow : OpenClaim := { program := "ytbchlolgphnmnaa", sum := "ff016541a7c7d8ec09e3ce3bc1b4688fd99a0bf53498a9f4bef8e0e042b90b08", func := "loop.example/g00209/laws.FnExactConstants", spec := "fnExactConstants", apart := false }
def FnExactConstantsSaid : Prop := fnExactConstantsRow.holds Try.pinned (OpenSpec.ofChange fnExactConstantsSpec)

/-- ITS FALSE NEIGHBOUR: 'it returns false'. Refute it at one input. -/
def fnExactConstantsWrong : ChangeSpec := { name := "fnExactConstants", fn := fun _ => fun
  | [] => { results := [.lit (.bool false)], args := [] }
  | _ => none }
def FnExactConstantsWrongFalsely : Prop := fnExactConstantsRow.holds Try.pinned (OpenSpec.ofChange fnExactConstantsWrong)

/-- 'laws.FnExactWrapTo32': WHATEVER THE INPUT: true; the input reads as it did. -/
def fnExactWrapTo32Spec : ChangeSpec := { name := "fnExactWrapTo32", fn := fun _ => fun
  | [d] => { results := [.lit (.bool true)], args := [d] }
  | _ => none }
def fnExactWrapTo32Row : OpenClaim := { program := "ytbchlolgphnmnaa", sum := "ff016541a7c7d8ec09e3ce3bc1b4688fd99a0bf53498a9f4bef8e0e042b90b08", func := "loop.example/g00209/laws.FnExactWrapTo32", spec := "fnExactWrapTo32", apart := false }
def FnExactWrapTo32Said : Prop := fnExactWrapTo32Row.holds Try.pinned (OpenSpec.ofChange fnExactWrapTo32Spec)

/-- ITS FALSE NEIGHBOUR: 'it returns false'. Refute it at one input. -/
def fnExactWrapTo32Wrong : ChangeSpec := { name := "fnExactWrapTo32", fn := fun _ => fun
  | [d] => { results := [.lit (.bool false)], args := [d] }
  | _ => none }
def FnExactWrapTo32WrongFalsely : Prop := fnExactWrapTo32Row.holds Try.pinned (OpenSpec.ofChange fnExactWrapTo32Wrong)

/-- 'laws.FnExactUlebBytes': WHATEVER THE INPUT: true; the input reads as it did. -/
def fnExactUlebBytesSpec : ChangeSpec := { name := "fnExactUlebBytes", fn := fun _ => fun
  | [d] => { results := [.lit (.bool true)], args := [d] }
  | _ => none }
def fnExactUlebBytesRow : OpenClaim := { program := "ytbchlolgphnmnaa", sum := "ff016541a7c7d8ec09e3ce3bc1b4688fd99a0bf53498a9f4bef8e0e042b90b08", func := "loop.example/g00209/laws.FnExactUlebBytes", spec := "fnExactUlebBytes", apart := false }
def FnExactUlebBytesSaid : Prop := fnExactUlebBytesRow.holds Try.pinned (OpenSpec.ofChange fnExactUlebBytesSpec)

/-- ITS FALSE NEIGHBOUR: 'it returns false'. Refute it at one input. -/
def fnExactUlebBytesWrong : ChangeSpec := { name := "fnExactUlebBytes", fn := fun _ => fun
  | [d] => { results := [.lit (.bool false)], args := [d] }
  | _ => none }
def FnExactUlebBytesWrongFalsely : Prop := fnExactUlebBytesRow.holds Try.pinned (OpenSpec.ofChange fnExactUlebBytesWrong)

/-- 'laws.FnExactGoodWord': WHATEVER THE INPUT: true; the input reads as it did. -/
def fnExactGoodWordSpec : ChangeSpec := { name := "fnExactGoodWord", fn := fun _ => fun
  | [d] => { results := [.lit (.bool true)], args := [d] }
  | _ => none }
def fnExactGoodWordRow : OpenClaim := { program := "ytbchlolgphnmnaa", sum := "ff016541a7c7d8ec09e3ce3bc1b4688fd99a0bf53498a9f4bef8e0e042b90b08", func := "loop.example/g00209/laws.FnExactGoodWord", spec := "fnExactGoodWord", apart := false }
def FnExactGoodWordSaid : Prop := fnExactGoodWordRow.holds Try.pinned (OpenSpec.ofChange fnExactGoodWordSpec)

/-- ITS FALSE NEIGHBOUR: 'it returns false'. Refute it at one input. -/
def fnExactGoodWordWrong : ChangeSpec := { name := "fnExactGoodWord", fn := fun _ => fun
  | [d] => { results := [.lit (.bool false)], args := [d] }
  | _ => none }
def FnExactGoodWordWrongFalsely : Prop := fnExactGoodWordRow.holds Try.pinned (OpenSpec.ofChange fnExactGoodWordWrong)

/-- 'laws.FnExactUlebSize': WHATEVER THE INPUT: true; the input reads as it did. -/
def fnExactUlebSizeSpec : ChangeSpec := { name := "fnExactUlebSize", fn := fun _ => fun
  | [d] => { results := [.lit (.bool true)], args := [d] }
  | _ => none }
def fnExactUlebSizeRow : OpenClaim := { program := "ytbchlolgphnmnaa", sum := "ff016541a7c7d8ec09e3ce3bc1b4688fd99a0bf53498a9f4bef8e0e042b90b08", func := "loop.example/g00209/laws.FnExactUlebSize", spec := "fnExactUlebSize", apart := false }
def FnExactUlebSizeSaid : Prop := fnExactUlebSizeRow.holds Try.pinned (OpenSpec.ofChange fnExactUlebSizeSpec)

/-- ITS FALSE NEIGHBOUR: 'it returns false'. Refute it at one input. -/
def fnExactUlebSizeWrong : ChangeSpec := { name := "fnExactUlebSize", fn := fun _ => fun
  | [d] => { results := [.lit (.bool false)], args := [d] }
  | _ => none }
def FnExactUlebSizeWrongFalsely : Prop := fnExactUlebSizeRow.holds Try.pinned (OpenSpec.ofChange fnExactUlebSizeWrong)

/-- 'laws.FnExactGoodMemory': WHATEVER THE INPUT: true; the input reads as it did. -/
def fnExactGoodMemorySpec : ChangeSpec := { name := "fnExactGoodMemory", fn := fun _ => fun
  | [d] => { results := [.lit (.bool true)], args := [d] }
  | _ => none }
def fnExactGoodMemoryRow : OpenClaim := { program := "ytbchlolgphnmnaa", sum := "ff016541a7c7d8ec09e3ce3bc1b4688fd99a0bf53498a9f4bef8e0e042b90b08", func := "loop.example/g00209/laws.FnExactGoodMemory", spec := "fnExactGoodMemory", apart := false }
def FnExactGoodMemorySaid : Prop := fnExactGoodMemoryRow.holds Try.pinned (OpenSpec.ofChange fnExactGoodMemorySpec)

/-- ITS FALSE NEIGHBOUR: 'it returns false'. Refute it at one input. -/
def fnExactGoodMemoryWrong : ChangeSpec := { name := "fnExactGoodMemory", fn := fun _ => fun
  | [d] => { results := [.lit (.bool false)], args := [d] }
  | _ => none }
def FnExactGoodMemoryWrongFalsely : Prop := fnExactGoodMemoryRow.holds Try.pinned (OpenSpec.ofChange fnExactGoodMemoryWrong)

/-- 'laws.FnExactSlebBytes': WHATEVER THE INPUT: true; the input reads as it did. -/
def fnExactSlebBytesSpec : ChangeSpec := { name := "fnExactSlebBytes", fn := fun _ => fun
  | [d] => { results := [.lit (.bool true)], args := [d] }
  | _ => none }
def fnExactSlebBytesRow : OpenClaim := { program := "ytbchlolgphnmnaa", sum := "ff016541a7c7d8ec09e3ce3bc1b4688fd99a0bf53498a9f4bef8e0e042b90b08", func := "loop.example/g00209/laws.FnExactSlebBytes", spec := "fnExactSlebBytes", apart := false }
def FnExactSlebBytesSaid : Prop := fnExactSlebBytesRow.holds Try.pinned (OpenSpec.ofChange fnExactSlebBytesSpec)

/-- ITS FALSE NEIGHBOUR: 'it returns false'. Refute it at one input. -/
def fnExactSlebBytesWrong : ChangeSpec := { name := "fnExactSlebBytes", fn := fun _ => fun
  | [d] => { results := [.lit (.bool false)], args := [d] }
  | _ => none }
def FnExactSlebBytesWrongFalsely : Prop := fnExactSlebBytesRow.holds Try.pinned (OpenSpec.ofChange fnExactSlebBytesWrong)

/-- 'laws.FnExactExtend32': WHATEVER THE INPUT: true; the input reads as it did. -/
def fnExactExtend32Spec : ChangeSpec := { name := "fnExactExtend32", fn := fun _ => fun
  | [d1, d2] => { results := [.lit (.bool true)], args := [d1, d2] }
  | _ => none }
def fnExactExtend32Row : OpenClaim := { program := "ytbchlolgphnmnaa", sum := "ff016541a7c7d8ec09e3ce3bc1b4688fd99a0bf53498a9f4bef8e0e042b90b08", func := "loop.example/g00209/laws.FnExactExtend32", spec := "fnExactExtend32", apart := false }
def FnExactExtend32Said : Prop := fnExactExtend32Row.holds Try.pinned (OpenSpec.ofChange fnExactExtend32Spec)

/-- ITS FALSE NEIGHBOUR: 'it returns false'. Refute it at one input. -/
def fnExactExtend32Wrong : ChangeSpec := { name := "fnExactExtend32", fn := fun _ => fun
  | [d1, d2] => { results := [.lit (.bool false)], args := [d1, d2] }
  | _ => none }
def FnExactExtend32WrongFalsely : Prop := fnExactExtend32Row.holds Try.pinned (OpenSpec.ofChange fnExactExtend32Wrong)

/-- 'laws.FnExactNameBytes': WHATEVER THE INPUT: true; the input reads as it did. -/
def fnExactNameBytesSpec : ChangeSpec := { name := "fnExactNameBytes", fn := fun _ => fun
  | [d] => { results := [.lit (.bool true)], args := [d] }
  | _ => none }
def fnExactNameBytesRow : OpenClaim := { program := "ytbchlolgphnmnaa", sum := "ff016541a7c7d8ec09e3ce3bc1b4688fd99a0bf53498a9f4bef8e0e042b90b08", func := "loop.example/g00209/laws.FnExactNameBytes", spec := "fnExactNameBytes", apart := false }
def FnExactNameBytesSaid : Prop := fnExactNameBytesRow.holds Try.pinned (OpenSpec.ofChange fnExactNameBytesSpec)

/-- ITS FALSE NEIGHBOUR: 'it returns false'. Refute it at one input. -/
def fnExactNameBytesWrong : ChangeSpec := { name := "fnExactNameBytes", fn := fun _ => fun
  | [d] => { results := [.lit (.bool false)], args := [d] }
  | _ => none }
def FnExactNameBytesWrongFalsely : Prop := fnExactNameBytesRow.holds Try.pinned (OpenSpec.ofChange fnExactNameBytesWrong)

/-- 'laws.FnExactBitsOf': WHATEVER THE INPUT: true; the input reads as it did. -/
def fnExactBitsOfSpec : ChangeSpec := { name := "fnExactBitsOf", fn := fun _ => fun
  | [d1, d2] => { results := [.lit (.bool true)], args := [d1, d2] }
  | _ => none }
def fnExactBitsOfRow : OpenClaim := { program := "ytbchlolgphnmnaa", sum := "ff016541a7c7d8ec09e3ce3bc1b4688fd99a0bf53498a9f4bef8e0e042b90b08", func := "loop.example/g00209/laws.FnExactBitsOf", spec := "fnExactBitsOf", apart := false }
def FnExactBitsOfSaid : Prop := fnExactBitsOfRow.holds Try.pinned (OpenSpec.ofChange fnExactBitsOfSpec)

/-- ITS FALSE NEIGHBOUR: 'it returns false'. Refute it at one input. -/
def fnExactBitsOfWrong : ChangeSpec := { name := "fnExactBitsOf", fn := fun _ => fun
  | [d1, d2] => { results := [.lit (.bool false)], args := [d1, d2] }
  | _ => none }
def FnExactBitsOfWrongFalsely : Prop := fnExactBitsOfRow.holds Try.pinned (OpenSpec.ofChange fnExactBitsOfWrong)

/-- 'laws.FnExactSignedOf': WHATEVER THE INPUT: true; the input reads as it did. -/
def fnExactSignedOfSpec : ChangeSpec := { name := "fnExactSignedOf", fn := fun _ => fun
  | [d1, d2] => { results := [.lit (.bool true)], args := [d1, d2] }
  | _ => none }
def fnExactSignedOfRow : OpenClaim := { program := "ytbchlolgphnmnaa", sum := "ff016541a7c7d8ec09e3ce3bc1b4688fd99a0bf53498a9f4bef8e0e042b90b08", func := "loop.example/g00209/laws.FnExactSignedOf", spec := "fnExactSignedOf", apart := false }
def FnExactSignedOfSaid : Prop := fnExactSignedOfRow.holds Try.pinned (OpenSpec.ofChange fnExactSignedOfSpec)

/-- ITS FALSE NEIGHBOUR: 'it returns false'. Refute it at one input. -/
def fnExactSignedOfWrong : ChangeSpec := { name := "fnExactSignedOf", fn := fun _ => fun
  | [d1, d2] => { results := [.lit (.bool false)], args := [d1, d2] }
  | _ => none }
def FnExactSignedOfWrongFalsely : Prop := fnExactSignedOfRow.holds Try.pinned (OpenSpec.ofChange fnExactSignedOfWrong)

/-- 'laws.FnExactTakeUleb': WHATEVER THE INPUT: true; the input reads as it did. -/
def fnExactTakeUlebSpec : ChangeSpec := { name := "fnExactTakeUleb", fn := fun _ => fun
  | [d1, d2] => { results := [.lit (.bool true)], args := [d1, d2] }
  | _ => none }
def fnExactTakeUlebRow : OpenClaim := { program := "ytbchlolgphnmnaa", sum := "ff016541a7c7d8ec09e3ce3bc1b4688fd99a0bf53498a9f4bef8e0e042b90b08", func := "loop.example/g00209/laws.FnExactTakeUleb", spec := "fnExactTakeUleb", apart := false }
def FnExactTakeUlebSaid : Prop := fnExactTakeUlebRow.holds Try.pinned (OpenSpec.ofChange fnExactTakeUlebSpec)

/-- ITS FALSE NEIGHBOUR: 'it returns false'. Refute it at one input. -/
def fnExactTakeUlebWrong : ChangeSpec := { name := "fnExactTakeUleb", fn := fun _ => fun
  | [d1, d2] => { results := [.lit (.bool false)], args := [d1, d2] }
  | _ => none }
def FnExactTakeUlebWrongFalsely : Prop := fnExactTakeUlebRow.holds Try.pinned (OpenSpec.ofChange fnExactTakeUlebWrong)

/- THE SECOND FORM. 'bulk': how many values and letters a reading holds, each counted each time it is reached (what is shared counts as often as it is met; a slice's spare places count too). A statement '..UptoSaid' is the law's where the arguments, and the package variables that the reading takes, are together of bulk at most 1048576: NARROWER than '..Said'. Prove '..Said' where nothing that the law and all that it calls make is longer than what came in: it says more and counts as full. Else prove '..UptoSaid'. A law counts once. -/
mutual
def uptoBulk {H : Type} : DataW H → Nat
  | .lit (.string bytes) => bytes.length + 1
  | .lit _ => 1
  | .nil => 1
  | .ptr d => uptoBulk d + 1
  | .slice elems spare => uptoBulkAll elems + uptoBulkAll spare + 1
  | .agg parts => uptoBulkAll parts + 1
  | .iface _ d => uptoBulk d + 1
  | .map entries => uptoBulkEntries entries + 1
  | .held _ => 1
def uptoBulkAll {H : Type} : List (DataW H) → Nat
  | [] => 0
  | d :: r => uptoBulk d + uptoBulkAll r
def uptoBulkEntries {H : Type} : List (Lit × DataW H) → Nat
  | [] => 0
  | x :: r => uptoBulkEntry x + uptoBulkEntries r
def uptoBulkEntry {H : Type} : Lit × DataW H → Nat
  | (.string bytes, d) => bytes.length + uptoBulk d + 1
  | (_, d) => uptoBulk d + 1
 end
def uptoSmall : (H : Type) → List (DataW H) → Bool := fun _ ds => decide (uptoBulkAll ds ≤ 1048576)
def OpenSpec.upto (s : _root_.Go.ChangeSpec) : _root_.Go.OpenSpec := { _root_.Go.OpenSpec.ofChange s with cond := some uptoSmall }

/-- 'laws.FnExactConstants', WHERE WHAT IT READS IS OF BULK AT MOST 1048576: true; the input reads as it did. -/
def fnExactConstantsUptoRow : OpenClaim := { program := "ytbchlolgphnmnaa", sum := "ff016541a7c7d8ec09e3ce3bc1b4688fd99a0bf53498a9f4bef8e0e042b90b08", func := "loop.example/g00209/laws.FnExactConstants", spec := "fnExactConstants", apart := false, narrowed := true }
def FnExactConstantsUptoSaid : Prop := fnExactConstantsUptoRow.holds Try.pinned (OpenSpec.upto fnExactConstantsSpec)

/-- 'laws.FnExactWrapTo32', WHERE WHAT IT READS IS OF BULK AT MOST 1048576: true; the input reads as it did. -/
def fnExactWrapTo32UptoRow : OpenClaim := { program := "ytbchlolgphnmnaa", sum := "ff016541a7c7d8ec09e3ce3bc1b4688fd99a0bf53498a9f4bef8e0e042b90b08", func := "loop.example/g00209/laws.FnExactWrapTo32", spec := "fnExactWrapTo32", apart := false, narrowed := true }
def FnExactWrapTo32UptoSaid : Prop := fnExactWrapTo32UptoRow.holds Try.pinned (OpenSpec.upto fnExactWrapTo32Spec)

/-- 'laws.FnExactUlebBytes', WHERE WHAT IT READS IS OF BULK AT MOST 1048576: true; the input reads as it did. -/
def fnExactUlebBytesUptoRow : OpenClaim := { program := "ytbchlolgphnmnaa", sum := "ff016541a7c7d8ec09e3ce3bc1b4688fd99a0bf53498a9f4bef8e0e042b90b08", func := "loop.example/g00209/laws.FnExactUlebBytes", spec := "fnExactUlebBytes", apart := false, narrowed := true }
def FnExactUlebBytesUptoSaid : Prop := fnExactUlebBytesUptoRow.holds Try.pinned (OpenSpec.upto fnExactUlebBytesSpec)

/-- 'laws.FnExactGoodWord', WHERE WHAT IT READS IS OF BULK AT MOST 1048576: true; the input reads as it did. -/
def fnExactGoodWordUptoRow : OpenClaim := { program := "ytbchlolgphnmnaa", sum := "ff016541a7c7d8ec09e3ce3bc1b4688fd99a0bf53498a9f4bef8e0e042b90b08", func := "loop.example/g00209/laws.FnExactGoodWord", spec := "fnExactGoodWord", apart := false, narrowed := true }
def FnExactGoodWordUptoSaid : Prop := fnExactGoodWordUptoRow.holds Try.pinned (OpenSpec.upto fnExactGoodWordSpec)

/-- 'laws.FnExactUlebSize', WHERE WHAT IT READS IS OF BULK AT MOST 1048576: true; the input reads as it did. -/
def fnExactUlebSizeUptoRow : OpenClaim := { program := "ytbchlolgphnmnaa", sum := "ff016541a7c7d8ec09e3ce3bc1b4688fd99a0bf53498a9f4bef8e0e042b90b08", func := "loop.example/g00209/laws.FnExactUlebSize", spec := "fnExactUlebSize", apart := false, narrowed := true }
def FnExactUlebSizeUptoSaid : Prop := fnExactUlebSizeUptoRow.holds Try.pinned (OpenSpec.upto fnExactUlebSizeSpec)

/-- 'laws.FnExactGoodMemory', WHERE WHAT IT READS IS OF BULK AT MOST 1048576: true; the input reads as it did. -/
def fnExactGoodMemoryUptoRow : OpenClaim := { program := "ytbchlolgphnmnaa", sum := "ff016541a7c7d8ec09e3ce3bc1b4688fd99a0bf53498a9f4bef8e0e042b90b08", func := "loop.example/g00209/laws.FnExactGoodMemory", spec := "fnExactGoodMemory", apart := false, narrowed := true }
def FnExactGoodMemoryUptoSaid : Prop := fnExactGoodMemoryUptoRow.holds Try.pinned (OpenSpec.upto fnExactGoodMemorySpec)

/-- 'laws.FnExactSlebBytes', WHERE WHAT IT READS IS OF BULK AT MOST 1048576: true; the input reads as it did. -/
def fnExactSlebBytesUptoRow : OpenClaim := { program := "ytbchlolgphnmnaa", sum := "ff016541a7c7d8ec09e3ce3bc1b4688fd99a0bf53498a9f4bef8e0e042b90b08", func := "loop.example/g00209/laws.FnExactSlebBytes", spec := "fnExactSlebBytes", apart := false, narrowed := true }
def FnExactSlebBytesUptoSaid : Prop := fnExactSlebBytesUptoRow.holds Try.pinned (OpenSpec.upto fnExactSlebBytesSpec)

/-- 'laws.FnExactExtend32', WHERE WHAT IT READS IS OF BULK AT MOST 1048576: true; the input reads as it did. -/
def fnExactExtend32UptoRow : OpenClaim := { program := "ytbchlolgphnmnaa", sum := "ff016541a7c7d8ec09e3ce3bc1b4688fd99a0bf53498a9f4bef8e0e042b90b08", func := "loop.example/g00209/laws.FnExactExtend32", spec := "fnExactExtend32", apart := false, narrowed := true }
def FnExactExtend32UptoSaid : Prop := fnExactExtend32UptoRow.holds Try.pinned (OpenSpec.upto fnExactExtend32Spec)

/-- 'laws.FnExactNameBytes', WHERE WHAT IT READS IS OF BULK AT MOST 1048576: true; the input reads as it did. -/
def fnExactNameBytesUptoRow : OpenClaim := { program := "ytbchlolgphnmnaa", sum := "ff016541a7c7d8ec09e3ce3bc1b4688fd99a0bf53498a9f4bef8e0e042b90b08", func := "loop.example/g00209/laws.FnExactNameBytes", spec := "fnExactNameBytes", apart := false, narrowed := true }
def FnExactNameBytesUptoSaid : Prop := fnExactNameBytesUptoRow.holds Try.pinned (OpenSpec.upto fnExactNameBytesSpec)

/-- 'laws.FnExactBitsOf', WHERE WHAT IT READS IS OF BULK AT MOST 1048576: true; the input reads as it did. -/
def fnExactBitsOfUptoRow : OpenClaim := { program := "ytbchlolgphnmnaa", sum := "ff016541a7c7d8ec09e3ce3bc1b4688fd99a0bf53498a9f4bef8e0e042b90b08", func := "loop.example/g00209/laws.FnExactBitsOf", spec := "fnExactBitsOf", apart := false, narrowed := true }
def FnExactBitsOfUptoSaid : Prop := fnExactBitsOfUptoRow.holds Try.pinned (OpenSpec.upto fnExactBitsOfSpec)

/-- 'laws.FnExactSignedOf', WHERE WHAT IT READS IS OF BULK AT MOST 1048576: true; the input reads as it did. -/
def fnExactSignedOfUptoRow : OpenClaim := { program := "ytbchlolgphnmnaa", sum := "ff016541a7c7d8ec09e3ce3bc1b4688fd99a0bf53498a9f4bef8e0e042b90b08", func := "loop.example/g00209/laws.FnExactSignedOf", spec := "fnExactSignedOf", apart := false, narrowed := true }
def FnExactSignedOfUptoSaid : Prop := fnExactSignedOfUptoRow.holds Try.pinned (OpenSpec.upto fnExactSignedOfSpec)

/-- 'laws.FnExactTakeUleb', WHERE WHAT IT READS IS OF BULK AT MOST 1048576: true; the input reads as it did. -/
def fnExactTakeUlebUptoRow : OpenClaim := { program := "ytbchlolgphnmnaa", sum := "ff016541a7c7d8ec09e3ce3bc1b4688fd99a0bf53498a9f4bef8e0e042b90b08", func := "loop.example/g00209/laws.FnExactTakeUleb", spec := "fnExactTakeUleb", apart := false, narrowed := true }
def FnExactTakeUlebUptoSaid : Prop := fnExactTakeUlebUptoRow.holds Try.pinned (OpenSpec.upto fnExactTakeUlebSpec)

end Rows
end Go.Proofs.Ytbchlolgphnmnaa
