/- For every input that the given statement lets in, FnExactGoodType returns true and leaves its arguments as they were; no condition beside the statement's own. -/
import Derived.Test.YtchjmkofdiejhaaRows
import Derived.Test.YtchjmkofdiejhaaRd
import Derived.Test.YtchjmkofdiejhaaOwnTyL
import Derived.WalkKit
import Derived.ProofKit
import Derived.OpenShut
import Derived.ShutString
import Derived.ChangeOld
import Derived.Below
import Derived.SizedLaws
import Derived.Carry
namespace Go.Proofs.Ytchjmkofdiejhaa.fnExactGoodType
open Go Go.ChangeShapes Go.WideShapes Go.ChangeAt Go.RowKit
open Go.Proofs.Ytchjmkofdiejhaa Go.Proofs.YtchjmkofdiejhaaW.PrintWords
open Go.ChangeMaps (open_string shut_string)
set_option linter.unusedVariables false
theorem own : ownKnob Try.prog.godebug = none := by kernel_rfl
theorem laidOut : laidOutB Try.prog = true := by kernel_rfl
open Go.Proofs.Ytchjmkofdiejhaa.PFnExactGoodType
set_option maxRecDepth 100000 in
theorem lifted (os : Os) (started : os.Started) (H : Type) (enc : TypeId × Value → H) :
    ReturnsInHanded {} Try.checked os 3 .any (Rows.fnExactGoodTypeSpec.pre6 enc Try.prog Try.f3 Rows.fnExactGoodTypeRow.domain false) (Rows.fnExactGoodTypeSpec.post enc Try.prog Try.f3 false true false false) := by
  refine returnsInHanded_of_change_sized (C := Try.checked) own started (by kernel_rfl) Try.func3
    (ChangeSpec.witness6 (enc := enc) (C := Try.checked) false ⟨#[], #[.slice none 0 0], []⟩ 8 (by kernel_rfl) (by kernel_rfl) (by kernel_rfl) (by kernel_rfl)) ?_
  intro W base args ds gs before hval0 hW hcnd hsz0 _
  have hval : ∀ (j : Nat) t v, Try.f3.params[j]? = some t → args[j]? = some v → Value.okWide Try.prog W .any base t v := hval0
  have hW' := hW
  obtain ⟨p, q, hA0, hV, rfl, hfz, hnd⟩ := hW
  have hA : DataW.TrodAll enc Try.prog W 0 (fun _ => true) true Try.f3.params.toList args.toList ds p := hA0
  rw [Try.params3] at hA hval
  obtain ⟨v0, vs0, d0, ds0, p0, q0, hargs, rfl, rfl, h0, r0⟩ := trodAll_cons hA
  obtain ⟨rfl, rfl, rfl⟩ := trodAll_nil r0
  obtain rfl : args = #[v0] := by cases args; simp_all
  obtain ⟨rfl, rfl⟩ := trodVars_none hV
  have lt0 : ∀ x ∈ p0, x.block < W.heap.size := by obtain ⟨m, hm⟩ := h0; exact DataW.trod_lt m _ _ _ hm
  obtain ⟨Aa0, la0, ca0, rfl, hca0, hra0, wa0⟩ := Rd.slice_of (Rd.fits_slice 37 Try.underlying22 (by kernel_rfl) (Rd.fits_iso (fun x : S37 => (x.f0, x.f1, x.f2)) (fun a => (⟨a.1, a.2.1, a.2.2⟩ : S37)) (fun _ => rfl) (Rd.fits_struct Try.underlying37 (by kernel_rfl) (Rd.seg_cons _ rfl (by kernel_rfl) (Rd.fits_int .i64 Try.underlying3) (Rd.seg_cons _ rfl (by kernel_rfl) (Rd.fits_int .i64 Try.underlying3) (Rd.seg_one _ rfl (by kernel_rfl) (Rd.fits_int .i64 Try.underlying3))))))) Try.underlying22 (hval 0 22 v0 rfl rfl) h0
  clear hA0 hval0 hsz0
  refine (OwnTyL.law_GoodType Aa0 ca0 la0 W hra0 hca0 (by have := wa0.1; simp only [maxLen] at this; omega)).mono fun e W' ⟨he, bel⟩ => ?_
  subst he
  exact ⟨_, rfl, _, _, _, [], _, [], hW', trodAll_mk1 (shut_bool Try.underlying4 _), (trodAll_cons_mk (Below.trod laidOut (by kernel_rfl) (of_decide_eq_true (by kernel_rfl)) h0 bel lt0) trodAll_mk0), rfl, bel.frame _, fun h => by cases h⟩
theorem over : Rows.fnExactGoodTypeRow.holds Try.pinned (OpenSpec.ofChange Rows.fnExactGoodTypeSpec) :=
  OpenClaim.holds_of_wide 3 Try.f3 rfl rfl rfl rfl rfl rfl rfl ⟨rfl, rfl, rfl, rfl, rfl⟩ rfl rfl rfl rfl rfl (by kernel_rfl) Try.func3 (by kernel_rfl)
    (of_decide_eq_true (by kernel_rfl)) (by unfold Func.isWrapper; first | (rw [if_pos (by decide +kernel)]; kernel_rfl) | (rw [if_neg (by decide +kernel)]; exact ⟨rfl, rfl⟩))
    (fun os started H enc _ => lifted os started H enc)
theorem proved : Rows.FnExactGoodTypeSaid := over
#print axioms proved
end Go.Proofs.Ytchjmkofdiejhaa.fnExactGoodType
namespace Go.Proofs.Ytchjmkofdiejhaa
/-- The row, under a short name, for the claim. -/
theorem fnExactGoodType_holds : Rows.FnExactGoodTypeSaid := fnExactGoodType.proved
end Go.Proofs.Ytchjmkofdiejhaa
