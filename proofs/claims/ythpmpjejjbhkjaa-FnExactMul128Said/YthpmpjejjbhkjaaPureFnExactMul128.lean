/- For every input that the given statement FnExactMul128 lets in, the statement's function comes to true: what the program's function gives is what the reference's gives; no condition beside the statement's own. -/
import Derived.Test.YthpmpjejjbhkjaaPFnExactMul128x1
import Derived.Test.YthpmpjejjbhkjaaPlain2
namespace Go.Proofs.Ythpmpjejjbhkjaa.Pure
open Go.RowKit Go.Proofs.Ythpmpjejjbhkjaa.PFnExactMul128 Go.Proofs.YthpmpjejjbhkjaaW.PrintWords Go.Proofs.YthpmpjejjbhkjaaW.PrintLast
open Go
open Go.Proofs.YthpmpjejjbhkjaaW.PrintMore
set_option linter.unusedVariables false
set_option linter.unusedSimpArgs false

theorem mul_bound (x y : Int) (hx0 : 0 ≤ x) (hx1 : x < 4294967296) (hy0 : 0 ≤ y) (hy1 : y < 4294967296) : 0 ≤ x * y ∧ x * y ≤ 18446744065119617025 := by
  refine ⟨Int.mul_nonneg hx0 hy0, ?_⟩
  exact Int.le_trans (Int.mul_le_mul (show x ≤ 4294967295 by omega) (show y ≤ 4294967295 by omega) hy0 (by decide)) (by decide)
theorem mul_whole (a b : Int) : a * b = (a / 4294967296) * (b / 4294967296) * 18446744073709551616 + ((a / 4294967296) * (b % 4294967296) + (a % 4294967296) * (b / 4294967296)) * 4294967296 + (a % 4294967296) * (b % 4294967296) := by
  have ha := Int.mul_ediv_add_emod a 4294967296
  have hb := Int.mul_ediv_add_emod b 4294967296
  generalize a / 4294967296 = ah at *
  generalize b / 4294967296 = bh at *
  generalize a % 4294967296 = al at *
  generalize b % 4294967296 = bl at *
  subst ha hb
  simp only [Int.add_mul, Int.mul_add]
  have e1 : 4294967296 * ah * (4294967296 * bh) = ah * bh * 18446744073709551616 := by
    rw [Int.mul_assoc, Int.mul_left_comm ah, ← Int.mul_assoc, Int.mul_comm (4294967296 * 4294967296)]; rfl
  have e2 : al * (4294967296 * bh) = al * bh * 4294967296 := by rw [Int.mul_left_comm, Int.mul_comm]
  have e3 : 4294967296 * ah * bl = ah * bl * 4294967296 := by rw [Int.mul_assoc, Int.mul_comm]
  rw [e1, e2, e3]
  omega
theorem FnExactMul128 : laws_FnExactMul128.Pure := by
  intro a b ha hb
  obtain ⟨a0, a1⟩ := Pl.wf_u64 ha
  obtain ⟨b0, b1⟩ := Pl.wf_u64 hb
  have hw := mul_whole a b
  have b1 := mul_bound (a / 4294967296) (b / 4294967296) (by omega) (by omega) (by omega) (by omega)
  have b2 := mul_bound (a / 4294967296) (b % 4294967296) (by omega) (by omega) (by omega) (by omega)
  have b3 := mul_bound (a % 4294967296) (b / 4294967296) (by omega) (by omega) (by omega) (by omega)
  have b4 := mul_bound (a % 4294967296) (b % 4294967296) (by omega) (by omega) (by omega) (by omega)
  unfold laws_FnExactMul128.f spec_Mul128.f impl_Mul128.f spec_l3Mul.f bits_Mul64.f
  simp only [Option.bind_some, Pl.and_u32max]
  rw [hw]
  clear hw ha hb
  generalize (a / 4294967296) * (b / 4294967296) = P at *
  generalize (a / 4294967296) * (b % 4294967296) = Q at *
  generalize (a % 4294967296) * (b / 4294967296) = R at *
  generalize (a % 4294967296) * (b % 4294967296) = S at *
  have hor : ∀ x y : Int, 0 ≤ y → y < 4294967296 → bits .or .u64 (IntKind.u64.wrap (x * 4294967296)) y = IntKind.u64.wrap (x * 4294967296) + y := by
    intro x y h0 h1
    rw [Pl.or_comm, Pl.or_join_u64 32 y _ h0 (by omega) (by rw [Pl.wrap_u64]; omega) (by rw [Pl.wrap_u64]; omega) (by omega) (by rw [Pl.wrap_u64]; omega)]
    omega
  rw [hor _ _ (by omega) (by omega)]
  simp only [Pl.wrap_u64]
  rw [if_pos (by omega), if_pos (by omega)]

end Go.Proofs.Ythpmpjejjbhkjaa.Pure
