/- For every input that the given statement FnExactGoodWord lets in, the statement's function comes to true: what the program's function gives is what the reference's gives; no condition beside the statement's own. -/
import Derived.Test.YtbchlolgphnmnaaPFnExactGoodWordx
import Derived.Test.YtbchlolgphnmnaaPlain4
namespace Go.Proofs.Ytbchlolgphnmnaa.Pure
open Go.RowKit Go.Proofs.Ytbchlolgphnmnaa.PFnExactGoodWord Go.Proofs.YtbchlolgphnmnaaW.PrintWords Go.Proofs.YtbchlolgphnmnaaW.PrintLast
open Go
open Go.Proofs.YtbchlolgphnmnaaW.PrintMore
set_option linter.unusedVariables false
set_option linter.unusedSimpArgs false

theorem l1In_told (a b c : Int) : spec_l1In.f a b c = some (decide (b ≤ a ∧ a ≤ c)) := by
  unfold spec_l1In.f
  by_cases h : b ≤ a <;> simp [h]

theorem goodWord_same (a b : Int) : ∃ r, spec_GoodWord.f a b = some r ∧ impl_GoodWord.f a b = some r := by
  unfold spec_GoodWord.f impl_GoodWord.f spec_l8Word.f spec_l6Type.f impl_goodType.f
  simp only [l1In_told, Option.bind_some]
  have e : decide (b < 4294967296) = decide (b ≤ 4294967295) := by rw [decide_eq_decide]; omega
  by_cases h1 : a = 127
  · subst h1; simp [e]
  · by_cases h2 : a = 126
    · subst h2; simp
    · by_cases h3 : a = 125
      · subst h3; simp [e]
      · have h4 : ¬ (125 ≤ a ∧ a ≤ 127) := by omega
        simp [h1, h2, h3, h4]
theorem FnExactGoodWord (a b : Int) : laws_FnExactGoodWord.f a b = some true := by
  obtain ⟨r, e1, e2⟩ := goodWord_same a b
  unfold laws_FnExactGoodWord.f laws_toWord.f
  simp [e1, e2]

end Go.Proofs.Ytbchlolgphnmnaa.Pure
