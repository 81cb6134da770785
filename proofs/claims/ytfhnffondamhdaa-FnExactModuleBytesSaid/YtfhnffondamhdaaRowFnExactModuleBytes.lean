/- For every input that the given statement lets in, FnExactModuleBytes returns true and leaves its arguments as they were; no condition beside the statement's own. -/
import Derived.Test.YtfhnffondamhdaaRows
import Derived.Test.YtfhnffondamhdaaRd
import Derived.Test.YtfhnffondamhdaaOwnMbZ
import Derived.WalkKit
import Derived.ProofKit
import Derived.OpenShut
import Derived.ShutString
import Derived.ChangeOld
import Derived.Below
import Derived.SizedLaws
import Derived.Carry
namespace Go.Proofs.Ytfhnffondamhdaa.fnExactModuleBytes
open Go Go.ChangeShapes Go.WideShapes Go.ChangeAt Go.RowKit
open Go.Proofs.Ytfhnffondamhdaa Go.Proofs.YtfhnffondamhdaaW.PrintWords
open Go.ChangeMaps (open_string shut_string)
set_option linter.unusedVariables false
theorem own : ownKnob Try.prog.godebug = none := by kernel_rfl
theorem laidOut : laidOutB Try.prog = true := by kernel_rfl
set_option maxRecDepth 100000 in
theorem lifted (os : Os) (started : os.Started) (H : Type) (enc : TypeId × Value → H) :
    ReturnsInHanded {} Try.checked os 4 .any (Rows.fnExactModuleBytesSpec.pre6 enc Try.prog Try.f4 Rows.fnExactModuleBytesRow.domain false) (Rows.fnExactModuleBytesSpec.post enc Try.prog Try.f4 false true false false) := by
  refine returnsInHanded_of_change_sized (C := Try.checked) own started (by kernel_rfl) Try.func4
    (ChangeSpec.witness6 (enc := enc) (C := Try.checked) false ⟨#[], #[.agg #[.slice none 0 0, .slice none 0 0, .bool false, .int .i64 0, .int .i64 0, .int .i64 0]], []⟩ 8 (by kernel_rfl) (by kernel_rfl) (by kernel_rfl) (by kernel_rfl)) ?_
  intro W base args ds gs before hval0 hW hcnd hsz0 _
  have hval : ∀ (j : Nat) t v, Try.f4.params[j]? = some t → args[j]? = some v → Value.okWide Try.prog W .any base t v := hval0
  have hW' := hW
  obtain ⟨p, q, hA0, hV, rfl, hfz, hnd⟩ := hW
  have hA : DataW.TrodAll enc Try.prog W 0 (fun _ => true) true Try.f4.params.toList args.toList ds p := hA0
  rw [Try.params4] at hA hval
  obtain ⟨v0, vs0, d0, ds0, p0, q0, hargs, rfl, rfl, h0, r0⟩ := trodAll_cons hA
  obtain ⟨rfl, rfl, rfl⟩ := trodAll_nil r0
  obtain rfl : args = #[v0] := by cases args; simp_all
  obtain ⟨rfl, rfl⟩ := trodVars_none hV
  have lt0 : ∀ x ∈ p0, x.block < W.heap.size := by obtain ⟨m, hm⟩ := h0; exact DataW.trod_lt m _ _ _ hm
  obtain ⟨cs0, a0, rfl, K0, W0⟩ := Rd.agg_of (Rd.fits_struct Try.underlying25 (by kernel_rfl) (Rd.seg_cons _ rfl (by kernel_rfl) (Rd.fits_slice 57 Try.underlying22 (by kernel_rfl) (Rd.fits_struct Try.underlying57 (by kernel_rfl) (Rd.seg_cons _ rfl (by kernel_rfl) (Rd.fits_slice 3 Try.underlying54 (by kernel_rfl) (Rd.fits_int .i64 Try.underlying3)) (Rd.seg_cons _ rfl (by kernel_rfl) (Rd.fits_int .i64 Try.underlying3) (Rd.seg_cons _ rfl (by kernel_rfl) (Rd.fits_slice 3 Try.underlying54 (by kernel_rfl) (Rd.fits_int .i64 Try.underlying3)) (Rd.seg_one _ rfl (by kernel_rfl) (Rd.fits_slice 145 Try.underlying55 (by kernel_rfl) (Rd.fits_struct Try.underlying145 (by kernel_rfl) (Rd.seg_cons _ rfl (by kernel_rfl) (Rd.fits_int .i64 Try.underlying3) (Rd.seg_one _ rfl (by kernel_rfl) (Rd.fits_int .i64 Try.underlying3))))))))))) (Rd.seg_cons _ rfl (by kernel_rfl) (Rd.fits_slice 119 Try.underlying23 (by kernel_rfl) (Rd.fits_struct Try.underlying119 (by kernel_rfl) (Rd.seg_cons _ rfl (by kernel_rfl) (Rd.fits_int .i64 Try.underlying3) (Rd.seg_cons _ rfl (by kernel_rfl) (Rd.fits_bool Try.underlying4) (Rd.seg_one _ rfl (by kernel_rfl) (Rd.fits_int .u64 Try.underlying74)))))) (Rd.seg_cons _ rfl (by kernel_rfl) (Rd.fits_bool Try.underlying4) (Rd.seg_cons _ rfl (by kernel_rfl) (Rd.fits_int .i64 Try.underlying3) (Rd.seg_cons _ rfl (by kernel_rfl) (Rd.fits_int .i64 Try.underlying3) (Rd.seg_one _ rfl (by kernel_rfl) (Rd.fits_int .i64 Try.underlying3)))))))) Try.underlying25 (hval 0 25 v0 rfl rfl) h0
  obtain ⟨la0_0, la0_1, a0_2, a0_3, a0_4, a0_5⟩ := a0
  obtain ⟨_, _, hcs0, ⟨Aa0_0, ca0_0, rfl, hca0_0, hra0_0⟩, ⟨_, _, rfl, ⟨Aa0_1, ca0_1, rfl, hca0_1, hra0_1⟩, ⟨_, _, rfl, rfl, ⟨_, _, rfl, rfl, ⟨_, _, rfl, rfl, rfl⟩⟩⟩⟩⟩ := K0
  obtain rfl : cs0 = #[.slice Aa0_0 la0_0.length ca0_0, .slice Aa0_1 la0_1.length ca0_1, .bool a0_2, .int .i64 a0_3, .int .i64 a0_4, .int .i64 a0_5] := Array.toList_inj.1 hcs0
  obtain ⟨wa0_0, wa0_1, wa0_2, wa0_3, wa0_4, wa0_5⟩ := W0
  clear hA0 hval0 hsz0
  refine (OwnMbL.law_ModuleBytes Aa0_0 ca0_0 la0_0 Aa0_1 ca0_1 la0_1 a0_2 a0_3 a0_4 a0_5 W ⟨OwnMdE.FsR_of hra0_0, hca0_0, hra0_1, hca0_1⟩ (by have := wa0_0.1; simp only [maxLen] at this; omega) (fun f hf => ⟨by have := (wa0_0.2 f hf).1.1; simp only [maxLen] at this; omega, by have := (wa0_0.2 f hf).2.2.1.1; simp only [maxLen] at this; omega, by have := (wa0_0.2 f hf).2.2.2.1; simp only [maxLen] at this; omega⟩) (by have := wa0_1.1; simp only [maxLen] at this; omega) (by have := Pl.wf_i64 wa0_5; simp only at this; omega) (by have := Pl.wf_i64 wa0_5; simp only at this; omega) (fun f hf p hp => Pl.wf_i64 ((wa0_0.2 f hf).2.2.2.2 p hp).2) (fun g hg => Pl.wf_u64 (wa0_1.2 g hg).2.2)).mono fun e W' ⟨he, bel⟩ => ?_
  subst he
  exact ⟨_, rfl, _, _, _, [], _, [], hW', trodAll_mk1 (shut_bool Try.underlying4 _), (trodAll_cons_mk (Below.trod laidOut (by kernel_rfl) (of_decide_eq_true (by kernel_rfl)) h0 bel lt0) trodAll_mk0), rfl, bel.frame _, fun h => by cases h⟩
theorem over : Rows.fnExactModuleBytesRow.holds Try.pinned (OpenSpec.ofChange Rows.fnExactModuleBytesSpec) :=
  OpenClaim.holds_of_wide 4 Try.f4 rfl rfl rfl rfl rfl rfl rfl ⟨rfl, rfl, rfl, rfl, rfl⟩ rfl rfl rfl rfl rfl (by kernel_rfl) Try.func4 (by kernel_rfl)
    (of_decide_eq_true (by kernel_rfl)) (by unfold Func.isWrapper; first | (rw [if_pos (by decide +kernel)]; kernel_rfl) | (rw [if_neg (by decide +kernel)]; exact ⟨rfl, rfl⟩))
    (fun os started H enc _ => lifted os started H enc)
theorem proved : Rows.FnExactModuleBytesSaid := over
#print axioms proved
end Go.Proofs.Ytfhnffondamhdaa.fnExactModuleBytes
namespace Go.Proofs.Ytfhnffondamhdaa
/-- The row, under a short name, for the claim. -/
theorem fnExactModuleBytes_holds : Rows.FnExactModuleBytesSaid := fnExactModuleBytes.proved
end Go.Proofs.Ytfhnffondamhdaa
