/- For every input that the given statement FnExactBitsOf lets in, the statement's function comes to true: what the program's function gives is what the reference's gives; no condition beside the statement's own. -/
import Derived.Test.YtbchlolgphnmnaaPFnExactBitsOfx1
import Derived.Test.YtbchlolgphnmnaaPlain
namespace Go.Proofs.Ytbchlolgphnmnaa.Pure
open Go.RowKit Go.Proofs.Ytbchlolgphnmnaa.PFnExactBitsOf Go.Proofs.YtbchlolgphnmnaaW.PrintWords Go.Proofs.YtbchlolgphnmnaaW.PrintLast
open Go
open Go.Proofs.YtbchlolgphnmnaaW.PrintMore
set_option linter.unusedVariables false
set_option linter.unusedSimpArgs false

theorem FnExactBitsOf : laws_FnExactBitsOf.Pure := by
  intro a0 a1 h h'
  unfold laws_FnExactBitsOf.f spec_BitsOf.f impl_BitsOf.f impl_cut.f spec_l3Bits.f spec_l3Mask.f impl_goodBits.f
  by_cases c : a0 = 32
  · simp [c]
  · by_cases d : a0 = 64 <;> simp [c, d]

end Go.Proofs.Ytbchlolgphnmnaa.Pure
