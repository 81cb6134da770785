/- For every input that the given statement FnExactWrapTo32 lets in, the statement's function comes to true: what the program's function gives is what the reference's gives; no condition beside the statement's own. -/
import Derived.Test.YtbchlolgphnmnaaPFnExactWrapTo32x1
import Derived.Test.YtbchlolgphnmnaaPlain
namespace Go.Proofs.Ytbchlolgphnmnaa.Pure
open Go.RowKit Go.Proofs.Ytbchlolgphnmnaa.PFnExactWrapTo32 Go.Proofs.YtbchlolgphnmnaaW.PrintWords Go.Proofs.YtbchlolgphnmnaaW.PrintLast
open Go
open Go.Proofs.YtbchlolgphnmnaaW.PrintMore
set_option linter.unusedVariables false
set_option linter.unusedSimpArgs false

theorem FnExactWrapTo32 : laws_FnExactWrapTo32.Pure := by
  intro a0 h
  unfold laws_FnExactWrapTo32.f spec_WrapTo32.f impl_WrapTo32.f impl_cut.f
  simp

end Go.Proofs.Ytbchlolgphnmnaa.Pure
