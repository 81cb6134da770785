/- For every input that the given statement lets in, FnExactGoodIns returns true and leaves its arguments as they were; no condition beside the statement's own. -/
import Derived.Test.YthpmpjejjbhkjaaRows
import Derived.Test.YthpmpjejjbhkjaaRd
import Derived.Test.YthpmpjejjbhkjaaPFnExactGoodInsx
import Derived.Test.YthpmpjejjbhkjaaPureFnExactGoodIns
import Derived.WalkKit
import Derived.ProofKit
import Derived.OpenShut
import Derived.ShutString
import Derived.ChangeOld
import Derived.Below
import Derived.SizedLaws
import Derived.Carry
namespace Go.Proofs.Ythpmpjejjbhkjaa.fnExactGoodIns
open Go Go.ChangeShapes Go.WideShapes Go.ChangeAt Go.RowKit
open Go.Proofs.Ythpmpjejjbhkjaa Go.Proofs.YthpmpjejjbhkjaaW.PrintWords
open Go.ChangeMaps (open_string shut_string)
set_option linter.unusedVariables false
theorem own : ownKnob Try.prog.godebug = none := by kernel_rfl
theorem laidOut : laidOutB Try.prog = true := by kernel_rfl
set_option maxRecDepth 100000 in
theorem lifted (os : Os) (started : os.Started) (H : Type) (enc : TypeId × Value → H) :
    ReturnsInHanded {} Try.checked os 12 .any (Rows.fnExactGoodInsSpec.pre6 enc Try.prog Try.f12 Rows.fnExactGoodInsRow.domain false) (Rows.fnExactGoodInsSpec.post enc Try.prog Try.f12 false true false false) := by
  refine returnsInHanded_of_change_sized (C := Try.checked) own started (by kernel_rfl) Try.func12
    (ChangeSpec.witness6 (enc := enc) (C := Try.checked) false ⟨#[], #[.agg #[.int .i64 0, .int .i64 0]], []⟩ 8 (by kernel_rfl) (by kernel_rfl) (by kernel_rfl) (by kernel_rfl)) ?_
  intro W base args ds gs before hval0 hW hcnd hsz0 _
  have hval : ∀ (j : Nat) t v, Try.f12.params[j]? = some t → args[j]? = some v → Value.okWide Try.prog W .any base t v := hval0
  have hW' := hW
  obtain ⟨p, q, hA0, hV, rfl, hfz, hnd⟩ := hW
  have hA : DataW.TrodAll enc Try.prog W 0 (fun _ => true) true Try.f12.params.toList args.toList ds p := hA0
  rw [Try.params12] at hA hval
  obtain ⟨v0, vs0, d0, ds0, p0, q0, hargs, rfl, rfl, h0, r0⟩ := trodAll_cons hA
  obtain ⟨rfl, rfl, rfl⟩ := trodAll_nil r0
  obtain rfl : args = #[v0] := by cases args; simp_all
  obtain ⟨rfl, rfl⟩ := trodVars_none hV
  have lt0 : ∀ x ∈ p0, x.block < W.heap.size := by obtain ⟨m, hm⟩ := h0; exact DataW.trod_lt m _ _ _ hm
  obtain ⟨cs0, a0, rfl, K0, W0⟩ := Rd.agg_of (Rd.fits_struct Try.underlying58 (by kernel_rfl) (Rd.seg_cons _ rfl (by kernel_rfl) (Rd.fits_int .i64 Try.underlying3) (Rd.seg_one _ rfl (by kernel_rfl) (Rd.fits_int .i64 Try.underlying3)))) Try.underlying58 (hval 0 58 v0 rfl rfl) h0
  obtain ⟨a0_0, a0_1⟩ := a0
  obtain ⟨_, _, hcs0, rfl, rfl⟩ := K0
  obtain rfl : cs0 = #[.int .i64 a0_0, .int .i64 a0_1] := Array.toList_inj.1 hcs0
  obtain ⟨wa0_0, wa0_1⟩ := W0
  clear hA0 hval0 hsz0
  obtain ⟨k, hk⟩ := Pure.FnExactGoodIns a0_0 a0_1
  refine (PFnExactGoodIns.laws_FnExactGoodIns.calls k a0_0 a0_1 true W hk).mono fun e W' ⟨he, bel⟩ => ?_
  subst he
  exact ⟨_, rfl, _, _, _, [], _, [], hW', trodAll_mk1 (shut_bool Try.underlying4 _), (trodAll_cons_mk (Below.trod laidOut (by kernel_rfl) (of_decide_eq_true (by kernel_rfl)) h0 bel lt0) trodAll_mk0), rfl, bel.frame _, fun h => by cases h⟩
theorem over : Rows.fnExactGoodInsRow.holds Try.pinned (OpenSpec.ofChange Rows.fnExactGoodInsSpec) :=
  OpenClaim.holds_of_wide 12 Try.f12 rfl rfl rfl rfl rfl rfl rfl ⟨rfl, rfl, rfl, rfl, rfl⟩ rfl rfl rfl rfl rfl (by kernel_rfl) Try.func12 (by kernel_rfl)
    (of_decide_eq_true (by kernel_rfl)) (by unfold Func.isWrapper; first | (rw [if_pos (by decide +kernel)]; kernel_rfl) | (rw [if_neg (by decide +kernel)]; exact ⟨rfl, rfl⟩))
    (fun os started H enc _ => lifted os started H enc)
theorem proved : Rows.FnExactGoodInsSaid := over
#print axioms proved
end Go.Proofs.Ythpmpjejjbhkjaa.fnExactGoodIns
namespace Go.Proofs.Ythpmpjejjbhkjaa
/-- The row, under a short name, for the claim. -/
theorem fnExactGoodIns_holds : Rows.FnExactGoodInsSaid := fnExactGoodIns.proved
end Go.Proofs.Ythpmpjejjbhkjaa
