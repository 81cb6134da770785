/- For every input that the given statement FnExactGoodMemory lets in, the statement's function comes to true: what the program's function gives is what the reference's gives; no condition beside the statement's own. -/
import Derived.Test.YtbchlolgphnmnaaPFnExactGoodMemoryx
import Derived.Test.YtbchlolgphnmnaaPlain4
namespace Go.Proofs.Ytbchlolgphnmnaa.Pure
open Go.RowKit Go.Proofs.Ytbchlolgphnmnaa.PFnExactGoodMemory Go.Proofs.YtbchlolgphnmnaaW.PrintWords Go.Proofs.YtbchlolgphnmnaaW.PrintLast
open Go
open Go.Proofs.YtbchlolgphnmnaaW.PrintMore
set_option linter.unusedVariables false
set_option linter.unusedSimpArgs false

theorem l1In_told (a b c : Int) : spec_l1In.f a b c = some (decide (b ≤ a ∧ a ≤ c)) := by
  unfold spec_l1In.f
  by_cases h : b ≤ a <;> simp [h]

/-! ### Good memories -/
def goodM (a : Int) (s : ByteArray) : Bool := decide (0 ≤ a ∧ a ≤ 8 ∧ (s.size : Int) % 256 = 0 ∧ (s.size : Int) ≤ a * 256)
theorem goodM_spec (a : Int) (s : ByteArray) : spec_GoodMemory.f a s = some (goodM a s) := by
  unfold spec_GoodMemory.f goodM
  simp only [l1In_told, Option.bind_some]
  by_cases h1 : 0 ≤ a ∧ a ≤ 8
  · rw [decide_eq_true h1, if_pos rfl, Pl.w64 (by omega) (by omega)]
    by_cases h2 : (s.size : Int) % 256 = 0
    · rw [if_pos h2]; simp only [Option.some.injEq, decide_eq_decide]; omega
    · rw [if_neg h2, decide_eq_false (by omega)]
  · rw [decide_eq_false h1, if_neg (by decide), decide_eq_false (by omega)]
theorem goodM_impl (a : Int) (s : ByteArray) : impl_GoodMemory.f a s = some (goodM a s) := by
  unfold impl_GoodMemory.f goodM
  by_cases h0 : a ≥ 0
  · by_cases h1 : a ≤ 8
    · rw [if_pos h0, if_pos h1, Pl.w64 (by omega) (by omega)]
      by_cases h2 : (s.size : Int) % 256 = 0
      · rw [if_pos h2]; simp only [Option.some.injEq, decide_eq_decide]; omega
      · rw [if_neg h2, decide_eq_false (by omega)]
    · rw [if_pos h0, if_neg h1, decide_eq_false (by omega)]
  · rw [if_neg h0, decide_eq_false (by omega)]

theorem FnExactGoodMemory (a : Int) (s : ByteArray) : laws_FnExactGoodMemory.f a s = some true := by
  unfold laws_FnExactGoodMemory.f laws_szMemory.f laws_toMemory.f
  by_cases h : wrap64 (1048576 - (s.size : Int)) < 0
  · simp [h]
  · simp [h, goodM_spec, goodM_impl]

end Go.Proofs.Ytbchlolgphnmnaa.Pure
