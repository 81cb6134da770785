/-
  No cell of these rows narrows 'for every input' (looked for: loops, veiled, ifaces, maps, wideKeys, modest, calm, conditions, laid).
  DERIVED. THE GIVEN ROWS OF THIS SEAT. 6 by the template 'for every input the law returns true; each argument reads behind the call as it read before'; 0 by the template 'total and deterministic' (their statements: YtfncjcnlndoelaaTotals.lean).
  GIVEN WITH THE SEED: the statements are not yours to turn. If you find one false, say at which input.
  Laid BY PROGRAM, IN A SANDBOX (cutbox-rows.mjs): the forced cells as the released guide's own fill.sh prints them over the translation fde58a148ccee27c… (all of the seat's roots in one cut). By AI agents, Wed Nov 11 2026. No macro, syntax, notation, axiom, sorry.
-/
import Derived.Test.YtfncjcnlndoelaaChecked
import GoSem.Claim
import GoSem.ClaimJoined
import GoSem.ClaimMapViews
import Derived.JoinedTies
import Derived.KernelRfl
namespace Go.Proofs.Ytfncjcnlndoelaa
/- THE CELL 'sum', in the pinned program and in every row, IS THE sha256 OF THE DUMP (.gsa) THAT YtfncjcnlndoelaaProg.lean LOADS. Nothing in Lean hashes anything: it is a label: what it is worth is what the hold of that sum in a sandbox is worth. -/
noncomputable def Try.pinned : Pinned := { name := "ytfncjcnlndoelaa", sum := "fde58a148ccee27cc41b293d819b7e5c229e5806ad737bc7f14deb2c86fb8d48", checked := Try.checked }
namespace Rows
def none {H : Type} : Left H := { results := [], args := [] }

/-- 'laws.FnExactGoodType': WHATEVER THE INPUT: true; the input reads as it did. -/
def fnExactGoodTypeSpec : ChangeSpec := { name := "fnExactGoodType", fn := fun _ => fun
  | [d] => { results := [.lit (.bool true)], args := [d] }
  | _ => none }
def fnExactGoodTypeRow : OpenClaim := { program := "ytfncjcnlndoelaa", sum := "fde58a148ccee27cc41b293d819b7e5c229e5806ad737bc7f14deb2c86fb8d48", func := "loop.example/g00209/laws.FnExactGoodType", spec := "fnExactGoodType", apart := false }
def FnExactGoodTypeSaid : Prop := fnExactGoodTypeRow.holds Try.pinned (OpenSpec.ofChange fnExactGoodTypeSpec)

/-- ITS FALSE NEIGHBOUR: 'it returns false'. Refute it at one input. -/
def fnExactGoodTypeWrong : ChangeSpec := { name := "fnExactGoodType", fn := fun _ => fun
  | [d] => { results := [.lit (.bool false)], args := [d] }
  | _ => none }
def FnExactGoodTypeWrongFalsely : Prop := fnExactGoodTypeRow.holds Try.pinned (OpenSpec.ofChange fnExactGoodTypeWrong)

/-- 'laws.FnExactBinary': WHATEVER THE INPUT: true; the input reads as it did. -/
def fnExactBinarySpec : ChangeSpec := { name := "fnExactBinary", fn := fun _ => fun
  | [d1, d2, d3, d4] => { results := [.lit (.bool true)], args := [d1, d2, d3, d4] }
  | _ => none }
def fnExactBinaryRow : OpenClaim := { program := "ytfncjcnlndoelaa", sum := "fde58a148ccee27cc41b293d819b7e5c229e5806ad737bc7f14deb2c86fb8d48", func := "loop.example/g00209/laws.FnExactBinary", spec := "fnExactBinary", apart := false }
def FnExactBinarySaid : Prop := fnExactBinaryRow.holds Try.pinned (OpenSpec.ofChange fnExactBinarySpec)

/-- ITS FALSE NEIGHBOUR: 'it returns false'. Refute it at one input. -/
def fnExactBinaryWrong : ChangeSpec := { name := "fnExactBinary", fn := fun _ => fun
  | [d1, d2, d3, d4] => { results := [.lit (.bool false)], args := [d1, d2, d3, d4] }
  | _ => none }
def FnExactBinaryWrongFalsely : Prop := fnExactBinaryRow.holds Try.pinned (OpenSpec.ofChange fnExactBinaryWrong)

/-- 'laws.FnExactFillMemory': WHATEVER THE INPUT: true; the input reads as it did. -/
def fnExactFillMemorySpec : ChangeSpec := { name := "fnExactFillMemory", fn := fun _ => fun
  | [d1, d2, d3, d4] => { results := [.lit (.bool true)], args := [d1, d2, d3, d4] }
  | _ => none }
def fnExactFillMemoryRow : OpenClaim := { program := "ytfncjcnlndoelaa", sum := "fde58a148ccee27cc41b293d819b7e5c229e5806ad737bc7f14deb2c86fb8d48", func := "loop.example/g00209/laws.FnExactFillMemory", spec := "fnExactFillMemory", inPlace := ["internal/abi.NoEscape", "internal/bytealg.MakeNoZero"], apart := false }
def FnExactFillMemorySaid : Prop := fnExactFillMemoryRow.holds Try.pinned (OpenSpec.ofChange fnExactFillMemorySpec)

/-- ITS FALSE NEIGHBOUR: 'it returns false'. Refute it at one input. -/
def fnExactFillMemoryWrong : ChangeSpec := { name := "fnExactFillMemory", fn := fun _ => fun
  | [d1, d2, d3, d4] => { results := [.lit (.bool false)], args := [d1, d2, d3, d4] }
  | _ => none }
def FnExactFillMemoryWrongFalsely : Prop := fnExactFillMemoryRow.holds Try.pinned (OpenSpec.ofChange fnExactFillMemoryWrong)

/-- 'laws.FnExactDeepestOf': WHATEVER THE INPUT: true; the input reads as it did. -/
def fnExactDeepestOfSpec : ChangeSpec := { name := "fnExactDeepestOf", fn := fun _ => fun
  | [d] => { results := [.lit (.bool true)], args := [d] }
  | _ => none }
def fnExactDeepestOfRow : OpenClaim := { program := "ytfncjcnlndoelaa", sum := "fde58a148ccee27cc41b293d819b7e5c229e5806ad737bc7f14deb2c86fb8d48", func := "loop.example/g00209/laws.FnExactDeepestOf", spec := "fnExactDeepestOf", apart := false }
def FnExactDeepestOfSaid : Prop := fnExactDeepestOfRow.holds Try.pinned (OpenSpec.ofChange fnExactDeepestOfSpec)

/-- ITS FALSE NEIGHBOUR: 'it returns false'. Refute it at one input. -/
def fnExactDeepestOfWrong : ChangeSpec := { name := "fnExactDeepestOf", fn := fun _ => fun
  | [d] => { results := [.lit (.bool false)], args := [d] }
  | _ => none }
def FnExactDeepestOfWrongFalsely : Prop := fnExactDeepestOfRow.holds Try.pinned (OpenSpec.ofChange fnExactDeepestOfWrong)

/-- 'laws.FnExactCodeBytes': WHATEVER THE INPUT: true; the input reads as it did. -/
def fnExactCodeBytesSpec : ChangeSpec := { name := "fnExactCodeBytes", fn := fun _ => fun
  | [d] => { results := [.lit (.bool true)], args := [d] }
  | _ => none }
def fnExactCodeBytesRow : OpenClaim := { program := "ytfncjcnlndoelaa", sum := "fde58a148ccee27cc41b293d819b7e5c229e5806ad737bc7f14deb2c86fb8d48", func := "loop.example/g00209/laws.FnExactCodeBytes", spec := "fnExactCodeBytes", apart := false }
def FnExactCodeBytesSaid : Prop := fnExactCodeBytesRow.holds Try.pinned (OpenSpec.ofChange fnExactCodeBytesSpec)

/-- ITS FALSE NEIGHBOUR: 'it returns false'. Refute it at one input. -/
def fnExactCodeBytesWrong : ChangeSpec := { name := "fnExactCodeBytes", fn := fun _ => fun
  | [d] => { results := [.lit (.bool false)], args := [d] }
  | _ => none }
def FnExactCodeBytesWrongFalsely : Prop := fnExactCodeBytesRow.holds Try.pinned (OpenSpec.ofChange fnExactCodeBytesWrong)

/-- 'laws.FnExactEndsOf': WHATEVER THE INPUT: true; the input reads as it did. -/
def fnExactEndsOfSpec : ChangeSpec := { name := "fnExactEndsOf", fn := fun _ => fun
  | [d] => { results := [.lit (.bool true)], args := [d] }
  | _ => none }
def fnExactEndsOfRow : OpenClaim := { program := "ytfncjcnlndoelaa", sum := "fde58a148ccee27cc41b293d819b7e5c229e5806ad737bc7f14deb2c86fb8d48", func := "loop.example/g00209/laws.FnExactEndsOf", spec := "fnExactEndsOf", apart := false }
def FnExactEndsOfSaid : Prop := fnExactEndsOfRow.holds Try.pinned (OpenSpec.ofChange fnExactEndsOfSpec)

/-- ITS FALSE NEIGHBOUR: 'it returns false'. Refute it at one input. -/
def fnExactEndsOfWrong : ChangeSpec := { name := "fnExactEndsOf", fn := fun _ => fun
  | [d] => { results := [.lit (.bool false)], args := [d] }
  | _ => none }
def FnExactEndsOfWrongFalsely : Prop := fnExactEndsOfRow.holds Try.pinned (OpenSpec.ofChange fnExactEndsOfWrong)

/- THE SECOND FORM. 'bulk': how many values and letters a reading holds, each counted each time it is reached (what is shared counts as often as it is met; a slice's spare places count too). A statement '..UptoSaid' is the law's where the arguments, and the package variables that the reading takes, are together of bulk at most 1048576: NARROWER than '..Said'. Prove '..Said' where nothing that the law and all that it calls make is longer than what came in: it says more and counts as full. Else prove '..UptoSaid'. A law counts once. -/
mutual
def uptoBulk {H : Type} : DataW H → Nat
  | .lit (.string bytes) => bytes.length + 1
  | .lit _ => 1
  | .nil => 1
  | .ptr d => uptoBulk d + 1
  | .slice elems spare => uptoBulkAll elems + uptoBulkAll spare + 1
  | .agg parts => uptoBulkAll parts + 1
  | .iface _ d => uptoBulk d + 1
  | .map entries => uptoBulkEntries entries + 1
  | .held _ => 1
def uptoBulkAll {H : Type} : List (DataW H) → Nat
  | [] => 0
  | d :: r => uptoBulk d + uptoBulkAll r
def uptoBulkEntries {H : Type} : List (Lit × DataW H) → Nat
  | [] => 0
  | x :: r => uptoBulkEntry x + uptoBulkEntries r
def uptoBulkEntry {H : Type} : Lit × DataW H → Nat
  | (.string bytes, d) => bytes.length + uptoBulk d + 1
  | (_, d) => uptoBulk d + 1
 end
def uptoSmall : (H : Type) → List (DataW H) → Bool := fun _ ds => decide (uptoBulkAll ds ≤ 1048576)
def OpenSpec.upto (s : _root_.Go.ChangeSpec) : _root_.Go.OpenSpec := { _root_.Go.OpenSpec.ofChange s with cond := some uptoSmall }

/-- 'laws.FnExactGoodType', WHERE WHAT IT READS IS OF BULK AT MOST 1048576: true; the input reads as it did. -/
def fnExactGoodTypeUptoRow : OpenClaim := { program := "ytfncjcnlndoelaa", sum := "fde58a148ccee27cc41b293d819b7e5c229e5806ad737bc7f14deb2c86fb8d48", func := "loop.example/g00209/laws.FnExactGoodType", spec := "fnExactGoodType", apart := false, narrowed := true }
def FnExactGoodTypeUptoSaid : Prop := fnExactGoodTypeUptoRow.holds Try.pinned (OpenSpec.upto fnExactGoodTypeSpec)

/-- 'laws.FnExactBinary', WHERE WHAT IT READS IS OF BULK AT MOST 1048576: true; the input reads as it did. -/
def fnExactBinaryUptoRow : OpenClaim := { program := "ytfncjcnlndoelaa", sum := "fde58a148ccee27cc41b293d819b7e5c229e5806ad737bc7f14deb2c86fb8d48", func := "loop.example/g00209/laws.FnExactBinary", spec := "fnExactBinary", apart := false, narrowed := true }
def FnExactBinaryUptoSaid : Prop := fnExactBinaryUptoRow.holds Try.pinned (OpenSpec.upto fnExactBinarySpec)

/-- 'laws.FnExactFillMemory', WHERE WHAT IT READS IS OF BULK AT MOST 1048576: true; the input reads as it did. -/
def fnExactFillMemoryUptoRow : OpenClaim := { program := "ytfncjcnlndoelaa", sum := "fde58a148ccee27cc41b293d819b7e5c229e5806ad737bc7f14deb2c86fb8d48", func := "loop.example/g00209/laws.FnExactFillMemory", spec := "fnExactFillMemory", inPlace := ["internal/abi.NoEscape", "internal/bytealg.MakeNoZero"], apart := false, narrowed := true }
def FnExactFillMemoryUptoSaid : Prop := fnExactFillMemoryUptoRow.holds Try.pinned (OpenSpec.upto fnExactFillMemorySpec)

/-- 'laws.FnExactDeepestOf', WHERE WHAT IT READS IS OF BULK AT MOST 1048576: true; the input reads as it did. -/
def fnExactDeepestOfUptoRow : OpenClaim := { program := "ytfncjcnlndoelaa", sum := "fde58a148ccee27cc41b293d819b7e5c229e5806ad737bc7f14deb2c86fb8d48", func := "loop.example/g00209/laws.FnExactDeepestOf", spec := "fnExactDeepestOf", apart := false, narrowed := true }
def FnExactDeepestOfUptoSaid : Prop := fnExactDeepestOfUptoRow.holds Try.pinned (OpenSpec.upto fnExactDeepestOfSpec)

/-- 'laws.FnExactCodeBytes', WHERE WHAT IT READS IS OF BULK AT MOST 1048576: true; the input reads as it did. -/
def fnExactCodeBytesUptoRow : OpenClaim := { program := "ytfncjcnlndoelaa", sum := "fde58a148ccee27cc41b293d819b7e5c229e5806ad737bc7f14deb2c86fb8d48", func := "loop.example/g00209/laws.FnExactCodeBytes", spec := "fnExactCodeBytes", apart := false, narrowed := true }
def FnExactCodeBytesUptoSaid : Prop := fnExactCodeBytesUptoRow.holds Try.pinned (OpenSpec.upto fnExactCodeBytesSpec)

/-- 'laws.FnExactEndsOf', WHERE WHAT IT READS IS OF BULK AT MOST 1048576: true; the input reads as it did. -/
def fnExactEndsOfUptoRow : OpenClaim := { program := "ytfncjcnlndoelaa", sum := "fde58a148ccee27cc41b293d819b7e5c229e5806ad737bc7f14deb2c86fb8d48", func := "loop.example/g00209/laws.FnExactEndsOf", spec := "fnExactEndsOf", apart := false, narrowed := true }
def FnExactEndsOfUptoSaid : Prop := fnExactEndsOfUptoRow.holds Try.pinned (OpenSpec.upto fnExactEndsOfSpec)

end Rows
end Go.Proofs.Ytfncjcnlndoelaa
