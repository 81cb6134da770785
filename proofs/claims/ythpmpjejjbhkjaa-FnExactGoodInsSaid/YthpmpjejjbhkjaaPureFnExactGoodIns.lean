/- For every input that the given statement FnExactGoodIns lets in, the statement's function comes to true: what the program's function gives is what the reference's gives; no condition beside the statement's own. -/
import Derived.Test.YthpmpjejjbhkjaaPFnExactGoodInsx
import Derived.Test.YthpmpjejjbhkjaaPlain4
namespace Go.Proofs.Ythpmpjejjbhkjaa.Pure
open Go.RowKit Go.Proofs.Ythpmpjejjbhkjaa.PFnExactGoodIns Go.Proofs.YthpmpjejjbhkjaaW.PrintWords Go.Proofs.YthpmpjejjbhkjaaW.PrintLast
open Go
open Go.Proofs.YthpmpjejjbhkjaaW.PrintMore
set_option linter.unusedVariables false
set_option linter.unusedSimpArgs false

theorem l1In_told (a b c : Int) : spec_l1In.f a b c = some (decide (b ≤ a ∧ a ≤ c)) := by
  unfold spec_l1In.f
  by_cases h : b ≤ a <;> simp [h]

/-! ### What an instruction has as A: both tell it alike, the program one more -/
def shapeM (op : Int) : Int := if 0 ≤ op ∧ op ≤ 180 then (spec_l6Shape.f 5 op).getD 0 else -1
theorem shape_far (k : Nat) (op : Int) (h : op < 0 ∨ 180 < op) : spec_l6Shape.f (k + 5) op = some (-1) ∧ impl_formOf.f (k + 5) op = some 0 := by
  have hb : ∀ c : Int, 0 ≤ c → c ≤ 180 → (op == c) = false := fun c h0 h1 => by simp; omega
  constructor
  · unfold spec_l6Shape.f
    iterate 13 rw [if_neg (by omega)]
    rw [hb 180 (by decide) (by decide)]
    simp only [spec_l6Shape.j0]
    iterate 3 rw [if_neg (by first | decide | omega)]
    rw [hb 4 (by decide) (by decide)]
    simp only [spec_l6Shape.j1]
    iterate 8 rw [if_neg (by first | decide | omega)]
    rw [hb 36 (by decide) (by decide)]
    simp only [spec_l6Shape.j2]
    iterate 4 rw [if_neg (by first | decide | omega)]
    rw [hb 55 (by decide) (by decide)]
    simp only [spec_l6Shape.j3]
    iterate 4 rw [if_neg (by first | decide | omega)]
    simp only [l1In_told, Option.bind_some]
    rw [decide_eq_false (by omega), decide_eq_false (by omega), decide_eq_false (by omega)]
    rfl
  · unfold impl_formOf.f
    iterate 2 rw [if_neg (by omega)]
    rw [hb 4 (by decide) (by decide)]
    simp only [impl_formOf.j0]
    iterate 8 rw [if_neg (by first | decide | omega)]
    rw [hb 36 (by decide) (by decide)]
    simp only [impl_formOf.j1]
    iterate 4 rw [if_neg (by first | decide | omega)]
    rw [hb 55 (by decide) (by decide)]
    simp only [impl_formOf.j2]
    iterate 17 rw [if_neg (by first | decide | omega)]
    rw [hb 180 (by decide) (by decide)]
    simp only [impl_formOf.j3]
    rw [if_neg (by decide)]
    rcases h with h | h
    · rw [if_neg (by omega), if_neg (by omega), if_neg (by omega)]
    · rw [if_pos (by omega), if_neg (by omega), if_pos (by omega), if_neg (by omega), if_pos (by omega), if_neg (by omega)]
theorem shape_near : ∀ v : Fin 181, spec_l6Shape.f 5 (v.val : Int) = some (shapeM (v.val : Int)) ∧ impl_formOf.f 5 (v.val : Int) = some (shapeM (v.val : Int) + 1) ∧ 0 ≤ shapeM (v.val : Int) + 1 ∧ shapeM (v.val : Int) ≤ 6 := by decide +kernel
theorem shape_told (op : Int) : Ev (fun k => spec_l6Shape.f k op) (shapeM op) ∧ Ev (fun k => impl_formOf.f k op) (shapeM op + 1) ∧ 0 ≤ shapeM op + 1 ∧ shapeM op ≤ 6 := by
  by_cases h : 0 ≤ op ∧ op ≤ 180
  · have := shape_near ⟨op.toNat, by omega⟩
    simp only [Int.toNat_of_nonneg h.1] at this
    obtain ⟨h1, h2, h3⟩ := this
    exact ⟨Ev.of (fun k => spec_l6Shape.mono op k) h1, Ev.of (fun k => impl_formOf.mono op k) h2, h3⟩
  · have e : shapeM op = -1 := by unfold shapeM; rw [if_neg h]
    rw [e]
    exact ⟨Pl.ev_const 5 fun k => (shape_far k op (by omega)).1, Pl.ev_const 5 fun k => (shape_far k op (by omega)).2, by decide, by decide⟩

/-! ### Good instructions -/
def goodI (op a : Int) : Bool :=
  if shapeM op = 0 then decide (a = 0) else if shapeM op = 1 then decide ((125 ≤ a ∧ a ≤ 127) ∨ a = 64) else if shapeM op = 2 then decide (0 ≤ a ∧ a ≤ 1000) else if shapeM op = 3 then decide (0 ≤ a ∧ a ≤ 10000)
  else if shapeM op = 4 then decide (-2147483648 ≤ a ∧ a ≤ 2147483647) else if shapeM op = 5 then true else if shapeM op = 6 then decide (0 ≤ a ∧ a ≤ 4294967295) else false
theorem beq_dec (a b : Int) : (a == b) = decide (a = b) := rfl
theorem goodI_spec (op a : Int) : Ev (fun k => spec_GoodIns.f k op a) (goodI op a) := by
  obtain ⟨h1, _, h3, h4⟩ := shape_told op
  unfold spec_GoodIns.f
  refine h1.bind ?_
  unfold goodI spec_l6Type.f
  simp only [l1In_told, Option.bind_some, beq_dec]
  generalize shapeM op = s at *
  obtain rfl | rfl | rfl | rfl | rfl | rfl | rfl | rfl : s = -1 ∨ s = 0 ∨ s = 1 ∨ s = 2 ∨ s = 3 ∨ s = 4 ∨ s = 5 ∨ s = 6 := by omega
  all_goals simp only [show ((-1 : Int) = 0) = False by decide, Int.reduceEq, if_true, if_false, eq_self, reduceIte]
  case inr.inr.inl =>
    by_cases h : 125 ≤ a ∧ a ≤ 127
    · simp only [decide_eq_true h, if_true, h, true_or, decide_true]; exact Ev.now true
    · simp only [decide_eq_false h, h, false_or, Bool.false_eq_true, if_false]; exact Ev.now _
  all_goals exact Ev.now _
theorem goodI_impl (op a : Int) : Ev (fun k => impl_GoodIns.f k op a) (goodI op a) := by
  obtain ⟨_, h1, h3, h4⟩ := shape_told op
  unfold impl_GoodIns.f
  refine h1.bind ?_
  unfold goodI impl_goodType.f
  simp only [beq_dec]
  generalize shapeM op = s at *
  obtain rfl | rfl | rfl | rfl | rfl | rfl | rfl | rfl : s = -1 ∨ s = 0 ∨ s = 1 ∨ s = 2 ∨ s = 3 ∨ s = 4 ∨ s = 5 ∨ s = 6 := by omega
  all_goals simp only [Int.reduceAdd, Int.reduceEq, if_true, if_false, eq_self, reduceIte]
  case inr.inr.inl =>
    by_cases h1 : a = 127
    · subst h1; exact Ev.now _
    · by_cases h2 : a = 126
      · subst h2; exact Ev.now _
      · by_cases h3 : a = 125
        · subst h3; exact Ev.now _
        · have e : decide ((125 ≤ a ∧ a ≤ 127) ∨ a = 64) = decide (a = 64) := by rw [decide_eq_decide]; omega
          rw [e]
          simp only [h1, h2, h3, if_false, Option.bind_some, decide_false, Bool.false_eq_true]
          exact Ev.now _
  case inr.inr.inr.inl =>
    by_cases h : a ≥ 0
    · simp only [if_pos h]; rw [show decide (0 ≤ a ∧ a ≤ 1000) = decide (a ≤ 1000) by rw [decide_eq_decide]; omega]; exact Ev.now _
    · simp only [if_neg h]; rw [decide_eq_false (by omega)]; exact Ev.now _
  case inr.inr.inr.inr.inl =>
    by_cases h : a ≥ 0
    · simp only [if_pos h]; rw [show decide (0 ≤ a ∧ a ≤ 10000) = decide (a ≤ 10000) by rw [decide_eq_decide]; omega]; exact Ev.now _
    · simp only [if_neg h]; rw [decide_eq_false (by omega)]; exact Ev.now _
  case inr.inr.inr.inr.inr.inl =>
    by_cases h : a ≥ -2147483648
    · simp only [if_pos h]; rw [show decide (-2147483648 ≤ a ∧ a ≤ 2147483647) = decide (a < 2147483648) by rw [decide_eq_decide]; omega]; exact Ev.now _
    · simp only [if_neg h]; rw [decide_eq_false (by omega)]; exact Ev.now _
  case inr.inr.inr.inr.inr.inr.inr =>
    by_cases h : a ≥ 0
    · simp only [if_pos h]; rw [show decide (0 ≤ a ∧ a ≤ 4294967295) = decide (a < 4294967296) by rw [decide_eq_decide]; omega]; exact Ev.now _
    · simp only [if_neg h]; rw [decide_eq_false (by omega)]; exact Ev.now _
  all_goals exact Ev.now _

theorem FnExactGoodIns (a b : Int) : ∃ k, laws_FnExactGoodIns.f k a b = some true := by
  refine Ev.rounds ?_
  unfold laws_FnExactGoodIns.f laws_toIns.f
  simp only [Option.bind_some]
  refine (goodI_spec a b).bind ((goodI_impl a b).bind ?_)
  simp only [bne_self_eq_false, Bool.false_eq_true, if_false]
  exact Ev.now true

end Go.Proofs.Ythpmpjejjbhkjaa.Pure
