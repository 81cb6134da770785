/- For every input that the given statement FnExactSignedOf lets in, the statement's function comes to true: what the program's function gives is what the reference's gives; no condition beside the statement's own. -/
import Derived.Test.YtbchlolgphnmnaaPFnExactSignedOfx1
import Derived.Test.YtbchlolgphnmnaaPlain
namespace Go.Proofs.Ytbchlolgphnmnaa.Pure
open Go.RowKit Go.Proofs.Ytbchlolgphnmnaa.PFnExactSignedOf Go.Proofs.YtbchlolgphnmnaaW.PrintWords Go.Proofs.YtbchlolgphnmnaaW.PrintLast
open Go
open Go.Proofs.YtbchlolgphnmnaaW.PrintMore
set_option linter.unusedVariables false
set_option linter.unusedSimpArgs false

theorem FnExactSignedOf : laws_FnExactSignedOf.Pure := by
  intro a0 a1 h h'
  have e : wrap32 (a1 % 4294967296) = wrap32 a1 := by unfold wrap32; omega
  unfold laws_FnExactSignedOf.f spec_SignedOf.f impl_SignedOf.f impl_signed.f spec_l3Bits.f spec_l3Signed.f impl_goodBits.f
  by_cases c : a0 = 32
  · simp [c, e]
  · by_cases d : a0 = 64 <;> simp [c, d]

end Go.Proofs.Ytbchlolgphnmnaa.Pure
