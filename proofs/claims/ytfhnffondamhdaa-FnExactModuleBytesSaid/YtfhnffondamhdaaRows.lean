/-
  No cell of these rows narrows 'for every input' (looked for: loops, veiled, ifaces, maps, wideKeys, modest, calm, conditions, laid).
  DERIVED. THE GIVEN ROWS OF THIS SEAT. 6 by the template 'for every input the law returns true; each argument reads behind the call as it read before'; 0 by the template 'total and deterministic' (their statements: YtfhnffondamhdaaTotals.lean).
  GIVEN WITH THE SEED: the statements are not yours to turn. If you find one false, say at which input.
  Laid BY PROGRAM, IN A SANDBOX (cutbox-rows.mjs): the forced cells as the released guide's own fill.sh prints them over the translation cfb8f745f8b9e48b… (all of the seat's roots in one cut). By AI agents, Wed Nov 11 2026. No macro, syntax, notation, axiom, sorry.
-/
import Derived.Test.YtfhnffondamhdaaChecked
import GoSem.Claim
import GoSem.ClaimJoined
import GoSem.ClaimMapViews
import Derived.JoinedTies
import Derived.KernelRfl
namespace Go.Proofs.Ytfhnffondamhdaa
/- THE CELL 'sum', in the pinned program and in every row, IS THE sha256 OF THE DUMP (.gsa) THAT YtfhnffondamhdaaProg.lean LOADS. Nothing in Lean hashes anything: it is a label: what it is worth is what the hold of that sum in a sandbox is worth. -/
noncomputable def Try.pinned : Pinned := { name := "ytfhnffondamhdaa", sum := "cfb8f745f8b9e48b426c29c3afe32f1858d67123b6286096fb6c0257370898e9", checked := Try.checked }
namespace Rows
def none {H : Type} : Left H := { results := [], args := [] }

/-- 'laws.FnExactGoodState': WHATEVER THE INPUT: true; the input reads as it did. -/
def fnExactGoodStateSpec : ChangeSpec := { name := "fnExactGoodState", fn := fun _ => fun
  | [d1, d2] => { results := [.lit (.bool true)], args := [d1, d2] }
  | _ => none }
def fnExactGoodStateRow : OpenClaim := { program := "ytfhnffondamhdaa", sum := "cfb8f745f8b9e48b426c29c3afe32f1858d67123b6286096fb6c0257370898e9", func := "loop.example/g00209/laws.FnExactGoodState", spec := "fnExactGoodState", apart := false }
def FnExactGoodStateSaid : Prop := fnExactGoodStateRow.holds Try.pinned (OpenSpec.ofChange fnExactGoodStateSpec)

/-- ITS FALSE NEIGHBOUR: 'it returns false'. Refute it at one input. -/
def fnExactGoodStateWrong : ChangeSpec := { name := "fnExactGoodState", fn := fun _ => fun
  | [d1, d2] => { results := [.lit (.bool false)], args := [d1, d2] }
  | _ => none }
def FnExactGoodStateWrongFalsely : Prop := fnExactGoodStateRow.holds Try.pinned (OpenSpec.ofChange fnExactGoodStateWrong)

/-- 'laws.FnExactModuleBytes': WHATEVER THE INPUT: true; the input reads as it did. -/
def fnExactModuleBytesSpec : ChangeSpec := { name := "fnExactModuleBytes", fn := fun _ => fun
  | [d] => { results := [.lit (.bool true)], args := [d] }
  | _ => none }
def fnExactModuleBytesRow : OpenClaim := { program := "ytfhnffondamhdaa", sum := "cfb8f745f8b9e48b426c29c3afe32f1858d67123b6286096fb6c0257370898e9", func := "loop.example/g00209/laws.FnExactModuleBytes", spec := "fnExactModuleBytes", inPlace := ["internal/abi.NoEscape"], apart := false }
def FnExactModuleBytesSaid : Prop := fnExactModuleBytesRow.holds Try.pinned (OpenSpec.ofChange fnExactModuleBytesSpec)

/-- ITS FALSE NEIGHBOUR: 'it returns false'. Refute it at one input. -/
def fnExactModuleBytesWrong : ChangeSpec := { name := "fnExactModuleBytes", fn := fun _ => fun
  | [d] => { results := [.lit (.bool false)], args := [d] }
  | _ => none }
def FnExactModuleBytesWrongFalsely : Prop := fnExactModuleBytesRow.holds Try.pinned (OpenSpec.ofChange fnExactModuleBytesWrong)

/-- 'laws.FnExactFirstState': WHATEVER THE INPUT: true; the input reads as it did. -/
def fnExactFirstStateSpec : ChangeSpec := { name := "fnExactFirstState", fn := fun _ => fun
  | [d] => { results := [.lit (.bool true)], args := [d] }
  | _ => none }
def fnExactFirstStateRow : OpenClaim := { program := "ytfhnffondamhdaa", sum := "cfb8f745f8b9e48b426c29c3afe32f1858d67123b6286096fb6c0257370898e9", func := "loop.example/g00209/laws.FnExactFirstState", spec := "fnExactFirstState", inPlace := ["internal/abi.NoEscape", "internal/bytealg.MakeNoZero"], apart := false }
def FnExactFirstStateSaid : Prop := fnExactFirstStateRow.holds Try.pinned (OpenSpec.ofChange fnExactFirstStateSpec)

/-- ITS FALSE NEIGHBOUR: 'it returns false'. Refute it at one input. -/
def fnExactFirstStateWrong : ChangeSpec := { name := "fnExactFirstState", fn := fun _ => fun
  | [d] => { results := [.lit (.bool false)], args := [d] }
  | _ => none }
def FnExactFirstStateWrongFalsely : Prop := fnExactFirstStateRow.holds Try.pinned (OpenSpec.ofChange fnExactFirstStateWrong)

/-- 'laws.FnExactFuncBytes': WHATEVER THE INPUT: true; the input reads as it did. -/
def fnExactFuncBytesSpec : ChangeSpec := { name := "fnExactFuncBytes", fn := fun _ => fun
  | [d] => { results := [.lit (.bool true)], args := [d] }
  | _ => none }
def fnExactFuncBytesRow : OpenClaim := { program := "ytfhnffondamhdaa", sum := "cfb8f745f8b9e48b426c29c3afe32f1858d67123b6286096fb6c0257370898e9", func := "loop.example/g00209/laws.FnExactFuncBytes", spec := "fnExactFuncBytes", apart := false }
def FnExactFuncBytesSaid : Prop := fnExactFuncBytesRow.holds Try.pinned (OpenSpec.ofChange fnExactFuncBytesSpec)

/-- ITS FALSE NEIGHBOUR: 'it returns false'. Refute it at one input. -/
def fnExactFuncBytesWrong : ChangeSpec := { name := "fnExactFuncBytes", fn := fun _ => fun
  | [d] => { results := [.lit (.bool false)], args := [d] }
  | _ => none }
def FnExactFuncBytesWrongFalsely : Prop := fnExactFuncBytesRow.holds Try.pinned (OpenSpec.ofChange fnExactFuncBytesWrong)

/-- 'laws.FnExactGoodShape': WHATEVER THE INPUT: true; the input reads as it did. -/
def fnExactGoodShapeSpec : ChangeSpec := { name := "fnExactGoodShape", fn := fun _ => fun
  | [d] => { results := [.lit (.bool true)], args := [d] }
  | _ => none }
def fnExactGoodShapeRow : OpenClaim := { program := "ytfhnffondamhdaa", sum := "cfb8f745f8b9e48b426c29c3afe32f1858d67123b6286096fb6c0257370898e9", func := "loop.example/g00209/laws.FnExactGoodShape", spec := "fnExactGoodShape", apart := false }
def FnExactGoodShapeSaid : Prop := fnExactGoodShapeRow.holds Try.pinned (OpenSpec.ofChange fnExactGoodShapeSpec)

/-- ITS FALSE NEIGHBOUR: 'it returns false'. Refute it at one input. -/
def fnExactGoodShapeWrong : ChangeSpec := { name := "fnExactGoodShape", fn := fun _ => fun
  | [d] => { results := [.lit (.bool false)], args := [d] }
  | _ => none }
def FnExactGoodShapeWrongFalsely : Prop := fnExactGoodShapeRow.holds Try.pinned (OpenSpec.ofChange fnExactGoodShapeWrong)

/-- 'laws.FnExactSameModule': WHATEVER THE INPUT: true; the input reads as it did. -/
def fnExactSameModuleSpec : ChangeSpec := { name := "fnExactSameModule", fn := fun _ => fun
  | [d1, d2] => { results := [.lit (.bool true)], args := [d1, d2] }
  | _ => none }
def fnExactSameModuleRow : OpenClaim := { program := "ytfhnffondamhdaa", sum := "cfb8f745f8b9e48b426c29c3afe32f1858d67123b6286096fb6c0257370898e9", func := "loop.example/g00209/laws.FnExactSameModule", spec := "fnExactSameModule", unfollowed := true, recurses := true, apart := false }
def FnExactSameModuleSaid : Prop := fnExactSameModuleRow.holds Try.pinned (OpenSpec.ofChange fnExactSameModuleSpec)

/-- ITS FALSE NEIGHBOUR: 'it returns false'. Refute it at one input. -/
def fnExactSameModuleWrong : ChangeSpec := { name := "fnExactSameModule", fn := fun _ => fun
  | [d1, d2] => { results := [.lit (.bool false)], args := [d1, d2] }
  | _ => none }
def FnExactSameModuleWrongFalsely : Prop := fnExactSameModuleRow.holds Try.pinned (OpenSpec.ofChange fnExactSameModuleWrong)

/- THE SECOND FORM. 'bulk': how many values and letters a reading holds, each counted each time it is reached (what is shared counts as often as it is met; a slice's spare places count too). A statement '..UptoSaid' is the law's where the arguments, and the package variables that the reading takes, are together of bulk at most 1048576: NARROWER than '..Said'. Prove '..Said' where nothing that the law and all that it calls make is longer than what came in: it says more and counts as full. Else prove '..UptoSaid'. A law counts once. -/
mutual
def uptoBulk {H : Type} : DataW H → Nat
  | .lit (.string bytes) => bytes.length + 1
  | .lit _ => 1
  | .nil => 1
  | .ptr d => uptoBulk d + 1
  | .slice elems spare => uptoBulkAll elems + uptoBulkAll spare + 1
  | .agg parts => uptoBulkAll parts + 1
  | .iface _ d => uptoBulk d + 1
  | .map entries => uptoBulkEntries entries + 1
  | .held _ => 1
def uptoBulkAll {H : Type} : List (DataW H) → Nat
  | [] => 0
  | d :: r => uptoBulk d + uptoBulkAll r
def uptoBulkEntries {H : Type} : List (Lit × DataW H) → Nat
  | [] => 0
  | x :: r => uptoBulkEntry x + uptoBulkEntries r
def uptoBulkEntry {H : Type} : Lit × DataW H → Nat
  | (.string bytes, d) => bytes.length + uptoBulk d + 1
  | (_, d) => uptoBulk d + 1
 end
def uptoSmall : (H : Type) → List (DataW H) → Bool := fun _ ds => decide (uptoBulkAll ds ≤ 1048576)
def OpenSpec.upto (s : _root_.Go.ChangeSpec) : _root_.Go.OpenSpec := { _root_.Go.OpenSpec.ofChange s with cond := some uptoSmall }

/-- 'laws.FnExactGoodState', WHERE WHAT IT READS IS OF BULK AT MOST 1048576: true; the input reads as it did. -/
def fnExactGoodStateUptoRow : OpenClaim := { program := "ytfhnffondamhdaa", sum := "cfb8f745f8b9e48b426c29c3afe32f1858d67123b6286096fb6c0257370898e9", func := "loop.example/g00209/laws.FnExactGoodState", spec := "fnExactGoodState", apart := false, narrowed := true }
def FnExactGoodStateUptoSaid : Prop := fnExactGoodStateUptoRow.holds Try.pinned (OpenSpec.upto fnExactGoodStateSpec)

/-- 'laws.FnExactModuleBytes', WHERE WHAT IT READS IS OF BULK AT MOST 1048576: true; the input reads as it did. -/
def fnExactModuleBytesUptoRow : OpenClaim := { program := "ytfhnffondamhdaa", sum := "cfb8f745f8b9e48b426c29c3afe32f1858d67123b6286096fb6c0257370898e9", func := "loop.example/g00209/laws.FnExactModuleBytes", spec := "fnExactModuleBytes", inPlace := ["internal/abi.NoEscape"], apart := false, narrowed := true }
def FnExactModuleBytesUptoSaid : Prop := fnExactModuleBytesUptoRow.holds Try.pinned (OpenSpec.upto fnExactModuleBytesSpec)

/-- 'laws.FnExactFirstState', WHERE WHAT IT READS IS OF BULK AT MOST 1048576: true; the input reads as it did. -/
def fnExactFirstStateUptoRow : OpenClaim := { program := "ytfhnffondamhdaa", sum := "cfb8f745f8b9e48b426c29c3afe32f1858d67123b6286096fb6c0257370898e9", func := "loop.example/g00209/laws.FnExactFirstState", spec := "fnExactFirstState", inPlace := ["internal/abi.NoEscape", "internal/bytealg.MakeNoZero"], apart := false, narrowed := true }
def FnExactFirstStateUptoSaid : Prop := fnExactFirstStateUptoRow.holds Try.pinned (OpenSpec.upto fnExactFirstStateSpec)

/-- 'laws.FnExactFuncBytes', WHERE WHAT IT READS IS OF BULK AT MOST 1048576: true; the input reads as it did. -/
def fnExactFuncBytesUptoRow : OpenClaim := { program := "ytfhnffondamhdaa", sum := "cfb8f745f8b9e48b426c29c3afe32f1858d67123b6286096fb6c0257370898e9", func := "loop.example/g00209/laws.FnExactFuncBytes", spec := "fnExactFuncBytes", apart := false, narrowed := true }
def FnExactFuncBytesUptoSaid : Prop := fnExactFuncBytesUptoRow.holds Try.pinned (OpenSpec.upto fnExactFuncBytesSpec)

/-- 'laws.FnExactGoodShape', WHERE WHAT IT READS IS OF BULK AT MOST 1048576: true; the input reads as it did. -/
def fnExactGoodShapeUptoRow : OpenClaim := { program := "ytfhnffondamhdaa", sum := "cfb8f745f8b9e48b426c29c3afe32f1858d67123b6286096fb6c0257370898e9", func := "loop.example/g00209/laws.FnExactGoodShape", spec := "fnExactGoodShape", apart := false, narrowed := true }
def FnExactGoodShapeUptoSaid : Prop := fnExactGoodShapeUptoRow.holds Try.pinned (OpenSpec.upto fnExactGoodShapeSpec)

/-- 'laws.FnExactSameModule', WHERE WHAT IT READS IS OF BULK AT MOST 1048576: true; the input reads as it did. -/
def fnExactSameModuleUptoRow : OpenClaim := { program := "ytfhnffondamhdaa", sum := "cfb8f745f8b9e48b426c29c3afe32f1858d67123b6286096fb6c0257370898e9", func := "loop.example/g00209/laws.FnExactSameModule", spec := "fnExactSameModule", unfollowed := true, recurses := true, apart := false, narrowed := true }
def FnExactSameModuleUptoSaid : Prop := fnExactSameModuleUptoRow.holds Try.pinned (OpenSpec.upto fnExactSameModuleSpec)

end Rows
end Go.Proofs.Ytfhnffondamhdaa
