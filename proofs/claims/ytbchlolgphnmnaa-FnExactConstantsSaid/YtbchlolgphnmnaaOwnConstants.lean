/- Constants: the walk; no condition. -/
import Derived.Test.YtbchlolgphnmnaaPlain3
import Derived.Test.YtbchlolgphnmnaaProg
import Derived.WalkKit
namespace Go.Proofs.Ytbchlolgphnmnaa.OwnConstants
open Go Go.RowKit Go.Proofs.YtbchlolgphnmnaaW.PrintWords
set_option maxHeartbeats 4000000 in
set_option maxRecDepth 100000 in
theorem law (w : World) : Calls Try.prog 3 #[] w fun e w' => e = .returned (.bool true) ∧ Below w.heap.size w w' := by
  go_enter Try.func3, Try.ntmps3
  go_wp2
  go_ret
  exact ⟨rfl, Below.refl _ _⟩
end Go.Proofs.Ytbchlolgphnmnaa.OwnConstants
