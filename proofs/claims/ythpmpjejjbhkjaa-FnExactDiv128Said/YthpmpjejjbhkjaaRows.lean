/-
  No cell of these rows narrows 'for every input' (looked for: loops, veiled, ifaces, maps, wideKeys, modest, calm, conditions, laid).
  DERIVED. THE GIVEN ROWS OF THIS SEAT. 12 by the template 'for every input the law returns true; each argument reads behind the call as it read before'; 0 by the template 'total and deterministic' (their statements: YthpmpjejjbhkjaaTotals.lean).
  GIVEN WITH THE SEED: the statements are not yours to turn. If you find one false, say at which input.
  Laid BY PROGRAM, IN A SANDBOX (cutbox-rows.mjs): the forced cells as the released guide's own fill.sh prints them over the translation 8b7c96152de4bd8b… (all of the seat's roots in one cut). By AI agents, Wed Nov 11 2026. No macro, syntax, notation, axiom, sorry.
-/
import Derived.Test.YthpmpjejjbhkjaaChecked
import GoSem.Claim
import GoSem.ClaimJoined
import GoSem.ClaimMapViews
import Derived.JoinedTies
import Derived.KernelRfl
namespace Go.Proofs.Ythpmpjejjbhkjaa
/- THE CELL 'sum', in the pinned program and in every row, IS THE sha256 OF THE DUMP (.gsa) THAT YthpmpjejjbhkjaaProg.lean LOADS. Nothing in Lean hashes anything: it is a label: what it is worth is what the hold of that sum in a sandbox is worth. -/
noncomputable def Try.pinned : Pinned := { name := "ythpmpjejjbhkjaa", sum := "8b7c96152de4bd8b83bb1ededd256df08cecff48857f752206ae8b0ecfb23da8", checked := Try.checked }
namespace Rows
def none {H : Type} : Left H := { results := [], args := [] }

/-- 'laws.FnExactMul128': WHATEVER THE INPUT: true; the input reads as it did. -/
def fnExactMul128Spec : ChangeSpec := { name := "fnExactMul128", fn := fun _ => fun
  | [d1, d2] => { results := [.lit (.bool true)], args := [d1, d2] }
  | _ => none }
def fnExactMul128Row : OpenClaim := { program := "ythpmpjejjbhkjaa", sum := "8b7c96152de4bd8b83bb1ededd256df08cecff48857f752206ae8b0ecfb23da8", func := "loop.example/g00209/laws.FnExactMul128", spec := "fnExactMul128", apart := false }
def FnExactMul128Said : Prop := fnExactMul128Row.holds Try.pinned (OpenSpec.ofChange fnExactMul128Spec)

/-- ITS FALSE NEIGHBOUR: 'it returns false'. Refute it at one input. -/
def fnExactMul128Wrong : ChangeSpec := { name := "fnExactMul128", fn := fun _ => fun
  | [d1, d2] => { results := [.lit (.bool false)], args := [d1, d2] }
  | _ => none }
def FnExactMul128WrongFalsely : Prop := fnExactMul128Row.holds Try.pinned (OpenSpec.ofChange fnExactMul128Wrong)

/-- 'laws.FnExactGoodPoints': WHATEVER THE INPUT: true; the input reads as it did. -/
def fnExactGoodPointsSpec : ChangeSpec := { name := "fnExactGoodPoints", fn := fun _ => fun
  | [d] => { results := [.lit (.bool true)], args := [d] }
  | _ => none }
def fnExactGoodPointsRow : OpenClaim := { program := "ythpmpjejjbhkjaa", sum := "8b7c96152de4bd8b83bb1ededd256df08cecff48857f752206ae8b0ecfb23da8", func := "loop.example/g00209/laws.FnExactGoodPoints", spec := "fnExactGoodPoints", apart := false }
def FnExactGoodPointsSaid : Prop := fnExactGoodPointsRow.holds Try.pinned (OpenSpec.ofChange fnExactGoodPointsSpec)

/-- ITS FALSE NEIGHBOUR: 'it returns false'. Refute it at one input. -/
def fnExactGoodPointsWrong : ChangeSpec := { name := "fnExactGoodPoints", fn := fun _ => fun
  | [d] => { results := [.lit (.bool false)], args := [d] }
  | _ => none }
def FnExactGoodPointsWrongFalsely : Prop := fnExactGoodPointsRow.holds Try.pinned (OpenSpec.ofChange fnExactGoodPointsWrong)

/-- 'laws.FnExactLoadBytes': WHATEVER THE INPUT: true; the input reads as it did. -/
def fnExactLoadBytesSpec : ChangeSpec := { name := "fnExactLoadBytes", fn := fun _ => fun
  | [d1, d2, d3] => { results := [.lit (.bool true)], args := [d1, d2, d3] }
  | _ => none }
def fnExactLoadBytesRow : OpenClaim := { program := "ythpmpjejjbhkjaa", sum := "8b7c96152de4bd8b83bb1ededd256df08cecff48857f752206ae8b0ecfb23da8", func := "loop.example/g00209/laws.FnExactLoadBytes", spec := "fnExactLoadBytes", apart := false }
def FnExactLoadBytesSaid : Prop := fnExactLoadBytesRow.holds Try.pinned (OpenSpec.ofChange fnExactLoadBytesSpec)

/-- ITS FALSE NEIGHBOUR: 'it returns false'. Refute it at one input. -/
def fnExactLoadBytesWrong : ChangeSpec := { name := "fnExactLoadBytes", fn := fun _ => fun
  | [d1, d2, d3] => { results := [.lit (.bool false)], args := [d1, d2, d3] }
  | _ => none }
def FnExactLoadBytesWrongFalsely : Prop := fnExactLoadBytesRow.holds Try.pinned (OpenSpec.ofChange fnExactLoadBytesWrong)

/-- 'laws.FnExactTakeSleb': WHATEVER THE INPUT: true; the input reads as it did. -/
def fnExactTakeSlebSpec : ChangeSpec := { name := "fnExactTakeSleb", fn := fun _ => fun
  | [d1, d2] => { results := [.lit (.bool true)], args := [d1, d2] }
  | _ => none }
def fnExactTakeSlebRow : OpenClaim := { program := "ythpmpjejjbhkjaa", sum := "8b7c96152de4bd8b83bb1ededd256df08cecff48857f752206ae8b0ecfb23da8", func := "loop.example/g00209/laws.FnExactTakeSleb", spec := "fnExactTakeSleb", apart := false }
def FnExactTakeSlebSaid : Prop := fnExactTakeSlebRow.holds Try.pinned (OpenSpec.ofChange fnExactTakeSlebSpec)

/-- ITS FALSE NEIGHBOUR: 'it returns false'. Refute it at one input. -/
def fnExactTakeSlebWrong : ChangeSpec := { name := "fnExactTakeSleb", fn := fun _ => fun
  | [d1, d2] => { results := [.lit (.bool false)], args := [d1, d2] }
  | _ => none }
def FnExactTakeSlebWrongFalsely : Prop := fnExactTakeSlebRow.holds Try.pinned (OpenSpec.ofChange fnExactTakeSlebWrong)

/-- 'laws.FnExactTakeName': WHATEVER THE INPUT: true; the input reads as it did. -/
def fnExactTakeNameSpec : ChangeSpec := { name := "fnExactTakeName", fn := fun _ => fun
  | [d] => { results := [.lit (.bool true)], args := [d] }
  | _ => none }
def fnExactTakeNameRow : OpenClaim := { program := "ythpmpjejjbhkjaa", sum := "8b7c96152de4bd8b83bb1ededd256df08cecff48857f752206ae8b0ecfb23da8", func := "loop.example/g00209/laws.FnExactTakeName", spec := "fnExactTakeName", apart := false }
def FnExactTakeNameSaid : Prop := fnExactTakeNameRow.holds Try.pinned (OpenSpec.ofChange fnExactTakeNameSpec)

/-- ITS FALSE NEIGHBOUR: 'it returns false'. Refute it at one input. -/
def fnExactTakeNameWrong : ChangeSpec := { name := "fnExactTakeName", fn := fun _ => fun
  | [d] => { results := [.lit (.bool false)], args := [d] }
  | _ => none }
def FnExactTakeNameWrongFalsely : Prop := fnExactTakeNameRow.holds Try.pinned (OpenSpec.ofChange fnExactTakeNameWrong)

/-- 'laws.FnExactStoreBytes': WHATEVER THE INPUT: true; the input reads as it did. -/
def fnExactStoreBytesSpec : ChangeSpec := { name := "fnExactStoreBytes", fn := fun _ => fun
  | [d1, d2, d3] => { results := [.lit (.bool true)], args := [d1, d2, d3] }
  | _ => none }
def fnExactStoreBytesRow : OpenClaim := { program := "ythpmpjejjbhkjaa", sum := "8b7c96152de4bd8b83bb1ededd256df08cecff48857f752206ae8b0ecfb23da8", func := "loop.example/g00209/laws.FnExactStoreBytes", spec := "fnExactStoreBytes", apart := false }
def FnExactStoreBytesSaid : Prop := fnExactStoreBytesRow.holds Try.pinned (OpenSpec.ofChange fnExactStoreBytesSpec)

/-- ITS FALSE NEIGHBOUR: 'it returns false'. Refute it at one input. -/
def fnExactStoreBytesWrong : ChangeSpec := { name := "fnExactStoreBytes", fn := fun _ => fun
  | [d1, d2, d3] => { results := [.lit (.bool false)], args := [d1, d2, d3] }
  | _ => none }
def FnExactStoreBytesWrongFalsely : Prop := fnExactStoreBytesRow.holds Try.pinned (OpenSpec.ofChange fnExactStoreBytesWrong)

/-- 'laws.FnExactCopyWithin': WHATEVER THE INPUT: true; the input reads as it did. -/
def fnExactCopyWithinSpec : ChangeSpec := { name := "fnExactCopyWithin", fn := fun _ => fun
  | [d1, d2, d3, d4] => { results := [.lit (.bool true)], args := [d1, d2, d3, d4] }
  | _ => none }
def fnExactCopyWithinRow : OpenClaim := { program := "ythpmpjejjbhkjaa", sum := "8b7c96152de4bd8b83bb1ededd256df08cecff48857f752206ae8b0ecfb23da8", func := "loop.example/g00209/laws.FnExactCopyWithin", spec := "fnExactCopyWithin", apart := false }
def FnExactCopyWithinSaid : Prop := fnExactCopyWithinRow.holds Try.pinned (OpenSpec.ofChange fnExactCopyWithinSpec)

/-- ITS FALSE NEIGHBOUR: 'it returns false'. Refute it at one input. -/
def fnExactCopyWithinWrong : ChangeSpec := { name := "fnExactCopyWithin", fn := fun _ => fun
  | [d1, d2, d3, d4] => { results := [.lit (.bool false)], args := [d1, d2, d3, d4] }
  | _ => none }
def FnExactCopyWithinWrongFalsely : Prop := fnExactCopyWithinRow.holds Try.pinned (OpenSpec.ofChange fnExactCopyWithinWrong)

/-- 'laws.FnExactFloatParts': WHATEVER THE INPUT: true; the input reads as it did. -/
def fnExactFloatPartsSpec : ChangeSpec := { name := "fnExactFloatParts", fn := fun _ => fun
  | [d1, d2] => { results := [.lit (.bool true)], args := [d1, d2] }
  | _ => none }
def fnExactFloatPartsRow : OpenClaim := { program := "ythpmpjejjbhkjaa", sum := "8b7c96152de4bd8b83bb1ededd256df08cecff48857f752206ae8b0ecfb23da8", func := "loop.example/g00209/laws.FnExactFloatParts", spec := "fnExactFloatParts", apart := false }
def FnExactFloatPartsSaid : Prop := fnExactFloatPartsRow.holds Try.pinned (OpenSpec.ofChange fnExactFloatPartsSpec)

/-- ITS FALSE NEIGHBOUR: 'it returns false'. Refute it at one input. -/
def fnExactFloatPartsWrong : ChangeSpec := { name := "fnExactFloatParts", fn := fun _ => fun
  | [d1, d2] => { results := [.lit (.bool false)], args := [d1, d2] }
  | _ => none }
def FnExactFloatPartsWrongFalsely : Prop := fnExactFloatPartsRow.holds Try.pinned (OpenSpec.ofChange fnExactFloatPartsWrong)

/-- 'laws.FnExactDiv128': WHATEVER THE INPUT: true; the input reads as it did. -/
def fnExactDiv128Spec : ChangeSpec := { name := "fnExactDiv128", fn := fun _ => fun
  | [d1, d2, d3] => { results := [.lit (.bool true)], args := [d1, d2, d3] }
  | _ => none }
def fnExactDiv128Row : OpenClaim := { program := "ythpmpjejjbhkjaa", sum := "8b7c96152de4bd8b83bb1ededd256df08cecff48857f752206ae8b0ecfb23da8", func := "loop.example/g00209/laws.FnExactDiv128", spec := "fnExactDiv128", named := ["math/bits.divideError", "math/bits.overflowError"], apart := false }
def FnExactDiv128Said : Prop := fnExactDiv128Row.holds Try.pinned (OpenSpec.ofChange fnExactDiv128Spec)

/-- ITS FALSE NEIGHBOUR: 'it returns false'. Refute it at one input. -/
def fnExactDiv128Wrong : ChangeSpec := { name := "fnExactDiv128", fn := fun _ => fun
  | [d1, d2, d3] => { results := [.lit (.bool false)], args := [d1, d2, d3] }
  | _ => none }
def FnExactDiv128WrongFalsely : Prop := fnExactDiv128Row.holds Try.pinned (OpenSpec.ofChange fnExactDiv128Wrong)

/-- 'laws.FnExactGoodIns': WHATEVER THE INPUT: true; the input reads as it did. -/
def fnExactGoodInsSpec : ChangeSpec := { name := "fnExactGoodIns", fn := fun _ => fun
  | [d] => { results := [.lit (.bool true)], args := [d] }
  | _ => none }
def fnExactGoodInsRow : OpenClaim := { program := "ythpmpjejjbhkjaa", sum := "8b7c96152de4bd8b83bb1ededd256df08cecff48857f752206ae8b0ecfb23da8", func := "loop.example/g00209/laws.FnExactGoodIns", spec := "fnExactGoodIns", apart := false }
def FnExactGoodInsSaid : Prop := fnExactGoodInsRow.holds Try.pinned (OpenSpec.ofChange fnExactGoodInsSpec)

/-- ITS FALSE NEIGHBOUR: 'it returns false'. Refute it at one input. -/
def fnExactGoodInsWrong : ChangeSpec := { name := "fnExactGoodIns", fn := fun _ => fun
  | [d] => { results := [.lit (.bool false)], args := [d] }
  | _ => none }
def FnExactGoodInsWrongFalsely : Prop := fnExactGoodInsRow.holds Try.pinned (OpenSpec.ofChange fnExactGoodInsWrong)

/-- 'laws.FnExactStoreInt': WHATEVER THE INPUT: true; the input reads as it did. -/
def fnExactStoreIntSpec : ChangeSpec := { name := "fnExactStoreInt", fn := fun _ => fun
  | [d1, d2, d3, d4] => { results := [.lit (.bool true)], args := [d1, d2, d3, d4] }
  | _ => none }
def fnExactStoreIntRow : OpenClaim := { program := "ythpmpjejjbhkjaa", sum := "8b7c96152de4bd8b83bb1ededd256df08cecff48857f752206ae8b0ecfb23da8", func := "loop.example/g00209/laws.FnExactStoreInt", spec := "fnExactStoreInt", apart := false }
def FnExactStoreIntSaid : Prop := fnExactStoreIntRow.holds Try.pinned (OpenSpec.ofChange fnExactStoreIntSpec)

/-- ITS FALSE NEIGHBOUR: 'it returns false'. Refute it at one input. -/
def fnExactStoreIntWrong : ChangeSpec := { name := "fnExactStoreInt", fn := fun _ => fun
  | [d1, d2, d3, d4] => { results := [.lit (.bool false)], args := [d1, d2, d3, d4] }
  | _ => none }
def FnExactStoreIntWrongFalsely : Prop := fnExactStoreIntRow.holds Try.pinned (OpenSpec.ofChange fnExactStoreIntWrong)

/-- 'laws.FnExactFCompare': WHATEVER THE INPUT: true; the input reads as it did. -/
def fnExactFCompareSpec : ChangeSpec := { name := "fnExactFCompare", fn := fun _ => fun
  | [d1, d2, d3] => { results := [.lit (.bool true)], args := [d1, d2, d3] }
  | _ => none }
def fnExactFCompareRow : OpenClaim := { program := "ythpmpjejjbhkjaa", sum := "8b7c96152de4bd8b83bb1ededd256df08cecff48857f752206ae8b0ecfb23da8", func := "loop.example/g00209/laws.FnExactFCompare", spec := "fnExactFCompare", apart := false }
def FnExactFCompareSaid : Prop := fnExactFCompareRow.holds Try.pinned (OpenSpec.ofChange fnExactFCompareSpec)

/-- ITS FALSE NEIGHBOUR: 'it returns false'. Refute it at one input. -/
def fnExactFCompareWrong : ChangeSpec := { name := "fnExactFCompare", fn := fun _ => fun
  | [d1, d2, d3] => { results := [.lit (.bool false)], args := [d1, d2, d3] }
  | _ => none }
def FnExactFCompareWrongFalsely : Prop := fnExactFCompareRow.holds Try.pinned (OpenSpec.ofChange fnExactFCompareWrong)

/- THE SECOND FORM. 'bulk': how many values and letters a reading holds, each counted each time it is reached (what is shared counts as often as it is met; a slice's spare places count too). A statement '..UptoSaid' is the law's where the arguments, and the package variables that the reading takes, are together of bulk at most 1048576: NARROWER than '..Said'. Prove '..Said' where nothing that the law and all that it calls make is longer than what came in: it says more and counts as full. Else prove '..UptoSaid'. A law counts once. -/
mutual
def uptoBulk {H : Type} : DataW H → Nat
  | .lit (.string bytes) => bytes.length + 1
  | .lit _ => 1
  | .nil => 1
  | .ptr d => uptoBulk d + 1
  | .slice elems spare => uptoBulkAll elems + uptoBulkAll spare + 1
  | .agg parts => uptoBulkAll parts + 1
  | .iface _ d => uptoBulk d + 1
  | .map entries => uptoBulkEntries entries + 1
  | .held _ => 1
def uptoBulkAll {H : Type} : List (DataW H) → Nat
  | [] => 0
  | d :: r => uptoBulk d + uptoBulkAll r
def uptoBulkEntries {H : Type} : List (Lit × DataW H) → Nat
  | [] => 0
  | x :: r => uptoBulkEntry x + uptoBulkEntries r
def uptoBulkEntry {H : Type} : Lit × DataW H → Nat
  | (.string bytes, d) => bytes.length + uptoBulk d + 1
  | (_, d) => uptoBulk d + 1
 end
def uptoSmall : (H : Type) → List (DataW H) → Bool := fun _ ds => decide (uptoBulkAll ds ≤ 1048576)
def OpenSpec.upto (s : _root_.Go.ChangeSpec) : _root_.Go.OpenSpec := { _root_.Go.OpenSpec.ofChange s with cond := some uptoSmall }

/-- 'laws.FnExactMul128', WHERE WHAT IT READS IS OF BULK AT MOST 1048576: true; the input reads as it did. -/
def fnExactMul128UptoRow : OpenClaim := { program := "ythpmpjejjbhkjaa", sum := "8b7c96152de4bd8b83bb1ededd256df08cecff48857f752206ae8b0ecfb23da8", func := "loop.example/g00209/laws.FnExactMul128", spec := "fnExactMul128", apart := false, narrowed := true }
def FnExactMul128UptoSaid : Prop := fnExactMul128UptoRow.holds Try.pinned (OpenSpec.upto fnExactMul128Spec)

/-- 'laws.FnExactGoodPoints', WHERE WHAT IT READS IS OF BULK AT MOST 1048576: true; the input reads as it did. -/
def fnExactGoodPointsUptoRow : OpenClaim := { program := "ythpmpjejjbhkjaa", sum := "8b7c96152de4bd8b83bb1ededd256df08cecff48857f752206ae8b0ecfb23da8", func := "loop.example/g00209/laws.FnExactGoodPoints", spec := "fnExactGoodPoints", apart := false, narrowed := true }
def FnExactGoodPointsUptoSaid : Prop := fnExactGoodPointsUptoRow.holds Try.pinned (OpenSpec.upto fnExactGoodPointsSpec)

/-- 'laws.FnExactLoadBytes', WHERE WHAT IT READS IS OF BULK AT MOST 1048576: true; the input reads as it did. -/
def fnExactLoadBytesUptoRow : OpenClaim := { program := "ythpmpjejjbhkjaa", sum := "8b7c96152de4bd8b83bb1ededd256df08cecff48857f752206ae8b0ecfb23da8", func := "loop.example/g00209/laws.FnExactLoadBytes", spec := "fnExactLoadBytes", apart := false, narrowed := true }
def FnExactLoadBytesUptoSaid : Prop := fnExactLoadBytesUptoRow.holds Try.pinned (OpenSpec.upto fnExactLoadBytesSpec)

/-- 'laws.FnExactTakeSleb', WHERE WHAT IT READS IS OF BULK AT MOST 1048576: true; the input reads as it did. -/
def fnExactTakeSlebUptoRow : OpenClaim := { program := "ythpmpjejjbhkjaa", sum := "8b7c96152de4bd8b83bb1ededd256df08cecff48857f752206ae8b0ecfb23da8", func := "loop.example/g00209/laws.FnExactTakeSleb", spec := "fnExactTakeSleb", apart := false, narrowed := true }
def FnExactTakeSlebUptoSaid : Prop := fnExactTakeSlebUptoRow.holds Try.pinned (OpenSpec.upto fnExactTakeSlebSpec)

/-- 'laws.FnExactTakeName', WHERE WHAT IT READS IS OF BULK AT MOST 1048576: true; the input reads as it did. -/
def fnExactTakeNameUptoRow : OpenClaim := { program := "ythpmpjejjbhkjaa", sum := "8b7c96152de4bd8b83bb1ededd256df08cecff48857f752206ae8b0ecfb23da8", func := "loop.example/g00209/laws.FnExactTakeName", spec := "fnExactTakeName", apart := false, narrowed := true }
def FnExactTakeNameUptoSaid : Prop := fnExactTakeNameUptoRow.holds Try.pinned (OpenSpec.upto fnExactTakeNameSpec)

/-- 'laws.FnExactStoreBytes', WHERE WHAT IT READS IS OF BULK AT MOST 1048576: true; the input reads as it did. -/
def fnExactStoreBytesUptoRow : OpenClaim := { program := "ythpmpjejjbhkjaa", sum := "8b7c96152de4bd8b83bb1ededd256df08cecff48857f752206ae8b0ecfb23da8", func := "loop.example/g00209/laws.FnExactStoreBytes", spec := "fnExactStoreBytes", apart := false, narrowed := true }
def FnExactStoreBytesUptoSaid : Prop := fnExactStoreBytesUptoRow.holds Try.pinned (OpenSpec.upto fnExactStoreBytesSpec)

/-- 'laws.FnExactCopyWithin', WHERE WHAT IT READS IS OF BULK AT MOST 1048576: true; the input reads as it did. -/
def fnExactCopyWithinUptoRow : OpenClaim := { program := "ythpmpjejjbhkjaa", sum := "8b7c96152de4bd8b83bb1ededd256df08cecff48857f752206ae8b0ecfb23da8", func := "loop.example/g00209/laws.FnExactCopyWithin", spec := "fnExactCopyWithin", apart := false, narrowed := true }
def FnExactCopyWithinUptoSaid : Prop := fnExactCopyWithinUptoRow.holds Try.pinned (OpenSpec.upto fnExactCopyWithinSpec)

/-- 'laws.FnExactFloatParts', WHERE WHAT IT READS IS OF BULK AT MOST 1048576: true; the input reads as it did. -/
def fnExactFloatPartsUptoRow : OpenClaim := { program := "ythpmpjejjbhkjaa", sum := "8b7c96152de4bd8b83bb1ededd256df08cecff48857f752206ae8b0ecfb23da8", func := "loop.example/g00209/laws.FnExactFloatParts", spec := "fnExactFloatParts", apart := false, narrowed := true }
def FnExactFloatPartsUptoSaid : Prop := fnExactFloatPartsUptoRow.holds Try.pinned (OpenSpec.upto fnExactFloatPartsSpec)

/-- 'laws.FnExactDiv128', WHERE WHAT IT READS IS OF BULK AT MOST 1048576: true; the input reads as it did. -/
def fnExactDiv128UptoRow : OpenClaim := { program := "ythpmpjejjbhkjaa", sum := "8b7c96152de4bd8b83bb1ededd256df08cecff48857f752206ae8b0ecfb23da8", func := "loop.example/g00209/laws.FnExactDiv128", spec := "fnExactDiv128", named := ["math/bits.divideError", "math/bits.overflowError"], apart := false, narrowed := true }
def FnExactDiv128UptoSaid : Prop := fnExactDiv128UptoRow.holds Try.pinned (OpenSpec.upto fnExactDiv128Spec)

/-- 'laws.FnExactGoodIns', WHERE WHAT IT READS IS OF BULK AT MOST 1048576: true; the input reads as it did. -/
def fnExactGoodInsUptoRow : OpenClaim := { program := "ythpmpjejjbhkjaa", sum := "8b7c96152de4bd8b83bb1ededd256df08cecff48857f752206ae8b0ecfb23da8", func := "loop.example/g00209/laws.FnExactGoodIns", spec := "fnExactGoodIns", apart := false, narrowed := true }
def FnExactGoodInsUptoSaid : Prop := fnExactGoodInsUptoRow.holds Try.pinned (OpenSpec.upto fnExactGoodInsSpec)

/-- 'laws.FnExactStoreInt', WHERE WHAT IT READS IS OF BULK AT MOST 1048576: true; the input reads as it did. -/
def fnExactStoreIntUptoRow : OpenClaim := { program := "ythpmpjejjbhkjaa", sum := "8b7c96152de4bd8b83bb1ededd256df08cecff48857f752206ae8b0ecfb23da8", func := "loop.example/g00209/laws.FnExactStoreInt", spec := "fnExactStoreInt", apart := false, narrowed := true }
def FnExactStoreIntUptoSaid : Prop := fnExactStoreIntUptoRow.holds Try.pinned (OpenSpec.upto fnExactStoreIntSpec)

/-- 'laws.FnExactFCompare', WHERE WHAT IT READS IS OF BULK AT MOST 1048576: true; the input reads as it did. -/
def fnExactFCompareUptoRow : OpenClaim := { program := "ythpmpjejjbhkjaa", sum := "8b7c96152de4bd8b83bb1ededd256df08cecff48857f752206ae8b0ecfb23da8", func := "loop.example/g00209/laws.FnExactFCompare", spec := "fnExactFCompare", apart := false, narrowed := true }
def FnExactFCompareUptoSaid : Prop := fnExactFCompareUptoRow.holds Try.pinned (OpenSpec.upto fnExactFCompareSpec)

end Rows
end Go.Proofs.Ythpmpjejjbhkjaa
