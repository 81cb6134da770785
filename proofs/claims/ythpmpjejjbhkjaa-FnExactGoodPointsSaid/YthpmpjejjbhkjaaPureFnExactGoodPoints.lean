/- For every input that the given statement FnExactGoodPoints lets in, the statement's function comes to true: what the program's function gives is what the reference's gives; no condition beside the statement's own. -/
import Derived.Test.YthpmpjejjbhkjaaPFnExactGoodPointsx1
import Derived.Test.YthpmpjejjbhkjaaPlain4
namespace Go.Proofs.Ythpmpjejjbhkjaa.Pure
open Go.RowKit Go.Proofs.Ythpmpjejjbhkjaa.PFnExactGoodPoints Go.Proofs.YthpmpjejjbhkjaaW.PrintWords Go.Proofs.YthpmpjejjbhkjaaW.PrintLast
open Go
open Go.Proofs.YthpmpjejjbhkjaaW.PrintMore
set_option linter.unusedVariables false
set_option linter.unusedSimpArgs false

theorem l1In_told (a b c : Int) : spec_l1In.f a b c = some (decide (b ≤ a ∧ a ≤ c)) := by
  unfold spec_l1In.f
  by_cases h : b ≤ a <;> simp [h]

/-! ### The statement's own copies and comparisons of lists of numbers -/
theorem toIntS_told (l : List Int) (hl : l.length ≤ 35184372088832) : Ev (fun k => laws_toIntS.f k l) l := by
  have key : ∀ (m i : Nat), i + m = l.length → Ev (fun k => laws_toIntS.l0 k l (l.take i ++ List.replicate (l.length - i) 0) (i : Int)) l := by
    intro m
    induction m with
    | zero =>
      intro i hi
      refine Pl.ev_const 1 fun k => ?_
      simp only [laws_toIntS.l0]
      rw [if_neg (by omega), show i = l.length by omega, Nat.sub_self, List.take_length]
      simp
    | succ m ih =>
      intro i hi
      refine Pl.ev_skip 1 (fun k => ?_) (ih (i + 1) (by omega))
      show laws_toIntS.l0 (k + 1) l _ (i : Int) = _
      simp only [laws_toIntS.l0]
      rw [if_pos (by omega), if_pos (by omega), if_pos (by rw [Pl.set_step_len l 0 i (by omega)]; omega), Pl.w64s i l.length (by omega) (by omega), Int.toNat_natCast]
      unfold rd
      rw [Int.toNat_natCast, Pl.set_step l 0 0 i (by omega)]
  unfold laws_toIntS.f
  simp only [if_pos (show 0 ≤ (l.length : Int) by omega), Int.toNat_natCast, if_pos hl]
  have := key l.length 0 (by omega)
  simpa using this
theorem eqIntS_refl (l : List Int) (hl : l.length ≤ 35184372088832) : Ev (fun k => laws_eqIntS.f k l l) true := by
  have key : ∀ (m i : Nat), i + m = l.length → Ev (fun k => laws_eqIntS.l0 k l l (i : Int)) true := by
    intro m
    induction m with
    | zero =>
      intro i hi
      refine Pl.ev_const 1 fun k => ?_
      simp only [laws_eqIntS.l0]
      rw [if_neg (by omega)]
    | succ m ih =>
      intro i hi
      refine Pl.ev_skip 1 (fun k => ?_) (ih (i + 1) (by omega))
      show laws_eqIntS.l0 (k + 1) l l (i : Int) = _
      simp only [laws_eqIntS.l0]
      rw [if_pos (by omega), if_pos (by omega), if_pos (by omega), if_pos trivial, Pl.w64s i l.length (by omega) (by omega)]
  unfold laws_eqIntS.f
  simp only [eq_self, if_true]
  exact key l.length 0 (by omega)

/-! ### Good points: both loops tell one thing -/
def goodB (p : Int) : Bool := decide (0 ≤ p ∧ p ≤ 1114111 ∧ ¬ (55296 ≤ p ∧ p ≤ 57343))
def goodPts (l : List Int) : Bool := l.all goodB && decide (l.length ≤ 300)
theorem goodPoint_told (p : Int) : impl_goodPoint.f p = some (goodB p) := by
  unfold impl_goodPoint.f goodB
  by_cases h1 : p ≥ 0
  · by_cases h2 : p ≤ 1114111
    · by_cases h3 : p < 55296
      · rw [if_pos h1, if_pos h2, if_pos h3, decide_eq_true (by omega)]
      · rw [if_pos h1, if_pos h2, if_neg h3]; simp only [Option.some.injEq, decide_eq_decide]; omega
    · rw [if_pos h1, if_neg h2, decide_eq_false (by omega)]
  · rw [if_neg h1, decide_eq_false (by omega)]
theorem drop_all (l : List Int) (i : Nat) (h : i < l.length) : (l.drop i).all goodB = (goodB l[i] && (l.drop (i + 1)).all goodB) := by
  rw [List.drop_eq_getElem_cons h, List.all_cons]
theorem points_spec (l : List Int) (hl : l.length ≤ 35184372088832) : Ev (fun k => spec_l2Points.f k l) (goodPts l) := by
  have key : ∀ (m i : Nat), i + m = l.length → Ev (fun k => spec_l2Points.l0 k l l (l.length : Int) (i : Int)) ((l.drop i).all goodB && decide (l.length ≤ 300)) := by
    intro m
    induction m with
    | zero =>
      intro i hi
      refine Pl.ev_const 1 fun k => ?_
      simp only [spec_l2Points.l0]
      rw [if_neg (by omega), List.drop_of_length_le (by omega)]
      simp
      omega
    | succ m ih =>
      intro i hi
      have hil : i < l.length := by omega
      have hn := ih (i + 1) (by omega)
      have step : ∀ k, spec_l2Points.l0 (k + 1) l l (l.length : Int) (i : Int) = if goodB l[i] = true then spec_l2Points.l0 k l l (l.length : Int) ((i + 1 : Nat) : Int) else some false := by
        intro k
        simp only [spec_l2Points.l0]
        rw [if_pos (by omega), if_pos (by omega), if_pos (by omega), Pl.rd_at l i hil, Pl.w64s i l.length (by omega) (by omega)]
        simp only [l1In_told, Option.bind_some, decide_eq_true_eq]
        unfold goodB
        simp only [decide_eq_true_eq]
        by_cases h1 : 0 ≤ l[i] ∧ l[i] ≤ 1114111
        · by_cases h2 : 55296 ≤ l[i] ∧ l[i] ≤ 57343
          · rw [if_pos h1, if_pos h2, if_neg (by omega)]
          · rw [if_pos h1, if_neg h2, if_pos (by omega)]
        · rw [if_neg h1, if_neg (by omega)]
      by_cases hg : goodB l[i] = true
      · have e : (l.drop i).all goodB = (l.drop (i + 1)).all goodB := by
          rw [drop_all l i hil, hg, Bool.true_and]
        rw [e]
        exact Pl.ev_skip 1 (fun k => by rw [step, if_pos hg]) hn
      · have e : (l.drop i).all goodB = false := by
          rw [drop_all l i hil, Bool.eq_false_iff.2 hg, Bool.false_and]
        rw [e]
        exact Pl.ev_const 1 (fun k => by rw [step, if_neg hg]; rfl)
  have := key l.length 0 (by omega)
  unfold spec_l2Points.f goodPts
  simpa using this
theorem points_impl (l : List Int) (hl : l.length ≤ 35184372088832) : Ev (fun k => impl_GoodPoints.f k l) (goodPts l) := by
  have key : ∀ (m i : Nat), i + m = l.length → Ev (fun k => impl_GoodPoints.l0 k l (l.length : Int) (i : Int)) ((l.drop i).all goodB) := by
    intro m
    induction m with
    | zero =>
      intro i hi
      refine Pl.ev_const 1 fun k => ?_
      simp only [impl_GoodPoints.l0]
      rw [if_neg (by omega), List.drop_of_length_le (by omega)]
      simp
    | succ m ih =>
      intro i hi
      have hil : i < l.length := by omega
      have hn := ih (i + 1) (by omega)
      have step : ∀ k, impl_GoodPoints.l0 (k + 1) l (l.length : Int) (i : Int) = if goodB l[i] = true then impl_GoodPoints.l0 k l (l.length : Int) ((i + 1 : Nat) : Int) else some false := by
        intro k
        simp only [impl_GoodPoints.l0]
        rw [if_pos (by omega), if_pos (by omega), if_pos (by omega), Pl.rd_at l i hil, Pl.w64s i l.length (by omega) (by omega)]
        simp only [goodPoint_told, Option.bind_some, decide_eq_true_eq]
      by_cases hg : goodB l[i] = true
      · have e : (l.drop i).all goodB = (l.drop (i + 1)).all goodB := by
          rw [drop_all l i hil, hg, Bool.true_and]
        rw [e]
        exact Pl.ev_skip 1 (fun k => by rw [step, if_pos hg]) hn
      · have e : (l.drop i).all goodB = false := by
          rw [drop_all l i hil, Bool.eq_false_iff.2 hg, Bool.false_and]
        rw [e]
        exact Pl.ev_const 1 (fun k => by rw [step, if_neg hg])
  have := key l.length 0 (by omega)
  unfold impl_GoodPoints.f goodPts
  by_cases h : (l.length : Int) > 300
  · simp only [if_pos h]
    rw [decide_eq_false (show ¬ l.length ≤ 300 by omega), Bool.and_false]
    exact Ev.now false
  · simp only [if_neg h]
    rw [decide_eq_true (show l.length ≤ 300 by omega), Bool.and_true]
    simpa using this

theorem FnExactGoodPoints (l : List Int) : ∃ k, laws_FnExactGoodPoints.f k l = some true := by
  refine Ev.rounds ?_
  unfold laws_FnExactGoodPoints.f spec_GoodPoints.f
  by_cases hb : (l.length : Int) > 1048576
  · simp only [if_pos hb]; exact Ev.now true
  · have hl' : l.length ≤ 35184372088832 := by omega
    have t := toIntS_told l hl'
    simp only [if_neg hb]
    refine t.bind (((points_spec l hl').bind (Ev.now (goodPts l))).bind (t.bind ((points_impl l hl').bind ?_)))
    simp only [bne_self_eq_false, Bool.false_eq_true, if_false]
    refine t.bind ((eqIntS_refl l hl').bind ?_)
    simp only [if_true]
    exact Ev.now true

end Go.Proofs.Ythpmpjejjbhkjaa.Pure
