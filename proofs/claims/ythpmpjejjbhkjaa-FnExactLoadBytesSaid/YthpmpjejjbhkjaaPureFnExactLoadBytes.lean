/- For every input that the given statement FnExactLoadBytes lets in, the statement's function comes to true: what the program's function gives is what the reference's gives; no condition beside the statement's own. -/
import Derived.Test.YthpmpjejjbhkjaaPFnExactLoadBytesx
import Derived.Test.YthpmpjejjbhkjaaPlain4
namespace Go.Proofs.Ythpmpjejjbhkjaa.Pure
open Go.RowKit Go.Proofs.Ythpmpjejjbhkjaa.PFnExactLoadBytes Go.Proofs.YthpmpjejjbhkjaaW.PrintWords Go.Proofs.YthpmpjejjbhkjaaW.PrintLast
open Go
open Go.Proofs.YthpmpjejjbhkjaaW.PrintMore
set_option linter.unusedVariables false
set_option linter.unusedSimpArgs false

theorem l1In_told (a b c : Int) : spec_l1In.f a b c = some (decide (b ≤ a ∧ a ≤ c)) := by
  unfold spec_l1In.f
  by_cases h : b ≤ a <;> simp [h]

/-! ### Good memories -/
def goodM (a : Int) (s : ByteArray) : Bool := decide (0 ≤ a ∧ a ≤ 8 ∧ (s.size : Int) % 256 = 0 ∧ (s.size : Int) ≤ a * 256)
theorem goodM_spec (a : Int) (s : ByteArray) : spec_GoodMemory.f a s = some (goodM a s) := by
  unfold spec_GoodMemory.f goodM
  simp only [l1In_told, Option.bind_some]
  by_cases h1 : 0 ≤ a ∧ a ≤ 8
  · rw [decide_eq_true h1, if_pos rfl, Pl.w64 (by omega) (by omega)]
    by_cases h2 : (s.size : Int) % 256 = 0
    · rw [if_pos h2]; simp only [Option.some.injEq, decide_eq_decide]; omega
    · rw [if_neg h2, decide_eq_false (by omega)]
  · rw [decide_eq_false h1, if_neg (by decide), decide_eq_false (by omega)]
theorem goodM_impl (a : Int) (s : ByteArray) : impl_GoodMemory.f a s = some (goodM a s) := by
  unfold impl_GoodMemory.f goodM
  by_cases h0 : a ≥ 0
  · by_cases h1 : a ≤ 8
    · rw [if_pos h0, if_pos h1, Pl.w64 (by omega) (by omega)]
      by_cases h2 : (s.size : Int) % 256 = 0
      · rw [if_pos h2]; simp only [Option.some.injEq, decide_eq_decide]; omega
      · rw [if_neg h2, decide_eq_false (by omega)]
    · rw [if_pos h0, if_neg h1, decide_eq_false (by omega)]
  · rw [if_neg h0, decide_eq_false (by omega)]

/-! ### Loading -/
def loadM (a : Int) (s : ByteArray) (at_ n : Int) : ByteArray × Int :=
  if goodM a s = true ∧ 0 ≤ at_ ∧ 0 ≤ n then (if at_ ≤ s.size ∧ n ≤ (s.size : Int) - at_ then (s.extract at_.toNat (at_ + n).toNat, 0) else ((⟨#[]⟩ : ByteArray), 2)) else ((⟨#[]⟩ : ByteArray), 1)
theorem load_spec (a : Int) (s : ByteArray) (at_ n : Int) (hs : s.size ≤ 9223372036854775807) (ha : at_ < 9223372036854775808) (hn : n < 9223372036854775808) : Ev (fun k => spec_LoadBytes.f k a s at_ n) (loadM a s at_ n) := by
  refine Pl.ev_const 1 fun k => ?_
  unfold spec_LoadBytes.f loadM
  simp only [goodM_spec, Option.bind_some]
  by_cases g : goodM a s = true
  · by_cases h1 : at_ < 0
    · rw [if_pos g, if_pos h1, if_neg (by omega)]; simp only [spec_LoadBytes.j0, if_true]
    · by_cases h2 : n < 0
      · rw [if_pos g, if_neg h1, decide_eq_true h2, if_neg (by omega)]; simp only [spec_LoadBytes.j0, if_true]
      · rw [if_pos g, if_neg h1, decide_eq_false h2, if_pos ⟨g, by omega, by omega⟩]
        simp only [spec_LoadBytes.j0, spec_l5Inside.f]
        rw [if_neg (by decide)]
        by_cases h3 : at_ ≤ (s.size : Int)
        · rw [if_pos h3, Pl.w64 (n := (s.size : Int) - at_) (by omega) (by omega), Option.bind_some]
          by_cases h4 : n ≤ (s.size : Int) - at_
          · rw [decide_eq_true h4, if_pos rfl, Pl.w64 (n := at_ + n) (by omega) (by omega), if_pos (by omega), if_pos (by omega), if_pos (by omega), if_pos ⟨h3, h4⟩]
          · rw [decide_eq_false h4, if_neg (by decide), if_neg (by omega)]
        · rw [if_neg h3, Option.bind_some, if_neg (by decide), if_neg (by omega)]
  · rw [if_neg g, if_neg (by simp [g])]; simp only [spec_LoadBytes.j0, if_true]
theorem load_impl (a : Int) (s : ByteArray) (at_ n : Int) (hs : s.size ≤ 9223372036854775807) (ha : at_ < 9223372036854775808) (hn : n < 9223372036854775808) : Ev (fun k => impl_LoadBytes.f k a s at_ n) (loadM a s at_ n) := by
  refine Pl.ev_const 1 fun k => ?_
  unfold impl_LoadBytes.f loadM
  simp only [goodM_impl, Option.bind_some]
  by_cases g : goodM a s = true
  · by_cases h1 : at_ < 0
    · rw [if_pos g, if_pos h1, if_neg (by omega)]; simp only [impl_LoadBytes.j0, if_true]
    · by_cases h2 : n < 0
      · rw [if_pos g, if_neg h1, decide_eq_true h2, if_neg (by omega)]; simp only [impl_LoadBytes.j0, if_true]
      · rw [if_pos g, if_neg h1, decide_eq_false h2, if_pos ⟨g, by omega, by omega⟩]
        simp only [impl_LoadBytes.j0, impl_Memory_within.f]
        rw [if_neg (by decide)]
        by_cases h3 : at_ ≤ (s.size : Int)
        · rw [if_pos h3, Pl.w64 (n := (s.size : Int) - at_) (by omega) (by omega), Option.bind_some]
          by_cases h4 : n ≤ (s.size : Int) - at_
          · rw [decide_eq_true h4, if_pos rfl, Pl.w64 (n := at_ + n) (by omega) (by omega), if_pos (by omega), if_pos (by omega), if_pos (by omega), if_pos ⟨h3, h4⟩]
          · rw [decide_eq_false h4, if_neg (by decide), if_neg (by omega)]
        · rw [if_neg h3, Option.bind_some, if_neg (by decide), if_neg (by omega)]
  · rw [if_neg g, if_neg (by simp [g])]; simp only [impl_LoadBytes.j0, if_true]

theorem FnExactLoadBytes (a : Int) (s : ByteArray) (at_ n : Int) (hs : s.size ≤ 9223372036854775807) (ha : at_ < 9223372036854775808) (hn : n < 9223372036854775808) : ∃ k, laws_FnExactLoadBytes.f k a s at_ n = some true := by
  refine Ev.rounds ?_
  unfold laws_FnExactLoadBytes.f laws_szMemory.f laws_toMemory.f
  by_cases h : wrap64 (1048576 - (s.size : Int)) < 0
  · simp only [if_pos h, Option.bind_some]; exact Ev.now true
  · simp only [if_neg h, Option.bind_some]
    refine (load_spec a s at_ n hs ha hn).bind ((load_impl a s at_ n hs ha hn).bind ?_)
    simp only [eq_self, if_true]
    exact Ev.now true

end Go.Proofs.Ythpmpjejjbhkjaa.Pure
