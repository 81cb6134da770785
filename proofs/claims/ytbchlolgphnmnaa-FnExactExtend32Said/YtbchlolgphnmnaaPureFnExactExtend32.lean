/- For every input that the given statement FnExactExtend32 lets in, the statement's function comes to true: what the program's function gives is what the reference's gives; no condition beside the statement's own. -/
import Derived.Test.YtbchlolgphnmnaaPFnExactExtend32x1
import Derived.Test.YtbchlolgphnmnaaPlain
namespace Go.Proofs.Ytbchlolgphnmnaa.Pure
open Go.RowKit Go.Proofs.Ytbchlolgphnmnaa.PFnExactExtend32 Go.Proofs.YtbchlolgphnmnaaW.PrintWords Go.Proofs.YtbchlolgphnmnaaW.PrintLast
open Go
open Go.Proofs.YtbchlolgphnmnaaW.PrintMore
set_option linter.unusedVariables false
set_option linter.unusedSimpArgs false

theorem FnExactExtend32 : laws_FnExactExtend32.Pure := by
  intro a0 a1 h
  obtain ⟨h0, h1⟩ := Pl.wf_u64 h
  have e : wrap32 (a0 % 4294967296) = wrap32 a0 := by unfold wrap32; omega
  unfold laws_FnExactExtend32.f spec_Extend32.f impl_Extend32.f impl_cut.f spec_l3Signed.f
  cases a1 <;> simp [e]

end Go.Proofs.Ytbchlolgphnmnaa.Pure
