/- A type's nodes: what the reference and the program's list of parts tell; no condition of its own. -/
import Derived.Test.YtchjmkofdiejhaaOwnTyP
namespace Go.Proofs.Ytchjmkofdiejhaa.OwnTyQ
open Go Go.RowKit Go.Proofs.YtchjmkofdiejhaaW.PrintWords Go.Proofs.YtchjmkofdiejhaaW.PrintLast Go.Proofs.YtchjmkofdiejhaaW.PrintMore Go.Proofs.Ytchjmkofdiejhaa.PFnExactGoodType Go.Proofs.Ytchjmkofdiejhaa.OwnTyP
set_option linter.unusedVariables false
set_option linter.unusedSimpArgs false
theorem ar_neg {u : Int → Int} {q p : Int} (h : p < 0) : ar u q p = false := by unfold ar; rw [dif_neg (by omega)]
theorem ar_eq {u : Int → Int} {q p : Int} (h : 0 ≤ p) (e : p = q) : ar u q p = true := by unfold ar; rw [dif_pos h, if_pos e]
theorem ar_up {u : Int → Int} {q p : Int} (h : 0 ≤ p) (e : p ≠ q) (l : u p < p) : ar u q p = ar u q (u p) := by rw [ar, dif_pos h, if_neg e, dif_pos l]
theorem dp_neg {u : Int → Int} {p : Int} (h : p < 0) : dp u p = 0 := by unfold dp; rw [dif_neg (by omega)]
theorem dp_up {u : Int → Int} {p : Int} (h : 0 ≤ p) (l : u p < p) : dp u p = 1 + dp u (u p) := by rw [dp, dif_pos h, dif_pos l]
/-- What stands behind the two ways up. -/
def tl (l : List S31) (i : Nat) (x5 : Bool) (a b : Int) (d : Int) (k : Nat) : Option Bool := (spec_l11Shape.f k a).bind fun bt112 => (if x5 = true then (if d > 8 then (some false) else ((spec_l11Parts.f k l (i : Int)).bind fun t116 => ((spec_l1In.f (t116.length : Int) bt112.1 bt112.2.1).bind fun t119 => (if t119 = true then ((spec_l1In.f b bt112.2.2.1 bt112.2.2.2).bind fun t120 => (if t120 = true then (spec_GoodType.l0 k l l (l.length : Int) (wrap64 ((i : Int) + 1))) else (some false))) else (some false))))) else (some false))
theorem l2_told (l : List S31) (i : Nat) (hl : l.length ≤ 40) (hi : i < l.length) (x5 : Bool) (a b c : Int) (r : Bool) (hw : Wf (uf l) (i + 1)) : ∀ (m : Nat) (p d : Int), p < m → -1 ≤ p → p ≤ i → 0 ≤ d → d + p ≤ 1000 → Ev (tl l i x5 a b (d + dp (uf l) p)) r → Ev (fun k => spec_GoodType.l2 k l i x5 d p l l.length i a b c) r
  | 0, p, d, h0, h1, h2, h3, h4, h => by
    rw [dp_neg (by omega), Int.add_zero] at h
    refine Pl.ev_skip 1 (fun k => ?_) h
    simp only [spec_GoodType.l2]
    rw [if_neg (by omega)]
    rfl
  | m + 1, p, d, h0, h1, h2, h3, h4, h => by
    by_cases hp : p < 0
    · rw [dp_neg (by omega), Int.add_zero] at h
      refine Pl.ev_skip 1 (fun k => ?_) h
      simp only [spec_GoodType.l2]
      rw [if_neg (by omega)]
      rfl
    · have w := hw p (by omega) (by omega)
      rw [dp_up (by omega) w.2, ← Int.add_assoc] at h
      refine Pl.ev_skip 1 (fun k => ?_) (l2_told l i hl hi x5 a b c r hw m (uf l p) (d + 1) (by omega) w.1 (by omega) (by omega) (by omega) h)
      simp only [spec_GoodType.l2]
      rw [if_pos (by omega), if_pos (by omega), if_pos (by omega), Pl.w64 (by omega) (by omega)]
      rfl
theorem l1_told (l : List S31) (i : Nat) (hl : l.length ≤ 40) (hi : i < l.length) (a b c : Int) (r : Bool) (hw : Wf (uf l) (i + 1)) : ∀ (m : Nat) (p : Int) (x5 : Bool), p < m → -1 ≤ p → p < i → Ev (fun k => spec_GoodType.l2 k l i (x5 || ar (uf l) c p) 0 i l l.length i a b c) r → Ev (fun k => spec_GoodType.l1 k l i x5 p l l.length i a b c) r
  | 0, p, x5, h0, h1, h2, h => by
    rw [ar_neg (by omega), Bool.or_false] at h
    refine Pl.ev_skip 2 (fun k => ?_) h
    simp only [spec_GoodType.l1, spec_GoodType.j3]
    rw [if_neg (by omega)]
  | m + 1, p, x5, h0, h1, h2, h => by
    by_cases hp : p < 0
    · rw [ar_neg (by omega), Bool.or_false] at h
      refine Pl.ev_skip 2 (fun k => ?_) h
      simp only [spec_GoodType.l1, spec_GoodType.j3]
      rw [if_neg (by omega)]
    · cases x5 with
      | true =>
        rw [Bool.true_or] at h
        refine Pl.ev_skip 2 (fun k => ?_) h
        simp only [spec_GoodType.l1, spec_GoodType.j3]
        rw [if_pos (by omega)]
        rfl
      | false =>
        have w := hw p (by omega) (by omega)
        have e : (false || ar (uf l) c p) = ((p == c) || ar (uf l) c (uf l p)) ∨ p = c := by
          by_cases e : p = c
          · exact .inr e
          · exact .inl (by rw [ar_up (by omega) e w.2, beq_eq_false_iff_ne.2 e])
        have step : Ev (fun k => spec_GoodType.l1 k l i (p == c) (uf l p) l l.length i a b c) r := by
          rcases e with e | e
          · rw [e] at h
            exact l1_told l i hl hi a b c r hw m (uf l p) (p == c) (by omega) w.1 (by omega) h
          · rw [ar_eq (by omega) e, Bool.or_true] at h
            refine l1_told l i hl hi a b c r hw m (uf l p) (p == c) (by omega) w.1 (by omega) ?_
            rw [beq_iff_eq.2 e, Bool.true_or]
            exact h
        refine Pl.ev_skip 1 (fun k => ?_) step
        simp only [spec_GoodType.l1]
        rw [if_pos (by omega), if_neg (by decide), if_pos (by omega), if_pos (by omega)]
        rfl
theorem spec_key (l : List S31) (hl : l.length ≤ 40) : ∀ (m i : Nat), i + m = l.length → (∀ j, j < i → upo (uf l) j = true) → Ev (fun k => spec_GoodType.l0 k l l l.length i) (allF (fun j => upo (uf l) j && oka l j) m i)
  | 0, i, h, hu => by
    refine Pl.ev_const 1 fun k => ?_
    simp only [spec_GoodType.l0]
    rw [if_neg (by omega)]
    rfl
  | m + 1, i, h, hu => by
    unfold allF
    have hwi := wf_of hu
    have eU : (rd_T31 l i).f2 = uf l i := rfl
    by_cases c1 : (((i : Int) == 0) != (uf l i == -1)) = true
    · have : upo (uf l) i = false := by
        unfold upo
        by_cases z : i = 0
        · subst z
          rw [if_pos rfl]
          simpa using c1
        · rw [if_neg z]
          rw [Bool.eq_false_iff]
          intro e
          have := ar_le' e
          have e1 : ((i : Int) == 0) = false := beq_eq_false_iff_ne.2 (by omega)
          rw [e1] at c1
          have : uf l i = -1 := by simpa using c1
          omega
      rw [this, Bool.false_and, Bool.false_and]
      refine Pl.ev_const 2 fun k => ?_
      simp only [spec_GoodType.l0, spec_GoodType.j1, eU]
      rw [if_pos (by omega), if_pos (by omega), if_pos (by omega), if_pos c1]
      rfl
    · have w1 : wrap64 ((i : Int) - 1) = (i : Int) - 1 := Pl.w64 (by omega) (by omega)
      by_cases c2 : -1 ≤ uf l i ∧ uf l i ≤ (i : Int) - 1
      · by_cases c3 : 1 ≤ (rd_T31 l i).f0 ∧ (rd_T31 l i).f0 ≤ 21
        · have hw : Wf (uf l) (i + 1) := by
            intro j h0 h1
            by_cases e : j = i
            · subst e; omega
            · exact hwi j h0 (by omega)
          have eA : upo (uf l) i = (((i : Int) == 0) || ar (uf l) (uf l i) ((i : Int) - 1)) := by
            unfold upo
            by_cases z : i = 0
            · subst z
              rw [if_pos rfl]
              have : uf l ((0 : Nat) : Int) = -1 := by simp only [Int.natCast_zero] at *; omega
              simp only [Int.natCast_zero] at *
              simp [this]
            · rw [if_neg z, beq_eq_false_iff_ne.2 (show (i : Int) ≠ 0 by omega), Bool.false_or]
          refine Pl.ev_skip (f := fun k => spec_GoodType.l1 k l i ((i : Int) == 0) ((i : Int) - 1) l l.length i (rd_T31 l i).f0 (rd_T31 l i).f1 (uf l i)) 2 (fun k => ?_) ?_
          · simp only [spec_GoodType.l0, spec_GoodType.j1, l1In_told, Option.bind_some, eU, w1]
            rw [if_pos (by omega), if_pos (by omega), if_pos (by omega), if_neg c1, if_pos (decide_eq_true c2), decide_eq_true c3]
            rfl
          · refine l1_told l i hl (by omega) _ _ _ _ hw (i + 1) _ _ (by omega) (by omega) (by omega) ?_
            rw [← eA]
            refine l2_told l i hl (by omega) _ _ _ _ _ hw (i + 1) _ _ (by omega) (by omega) (by omega) (by omega) (by omega) ?_
            rw [Int.zero_add]
            unfold tl
            refine Ev.bind (shape_told _) ?_
            cases hA : upo (uf l) i with
            | false =>
              rw [Bool.false_and, Bool.false_and]
              exact Pl.ev_const 0 fun k => if_neg (by decide)
            | true =>
              have hu' : ∀ j, j < i + 1 → upo (uf l) j = true := fun j hj => by
                by_cases e : j = i
                · rw [e]; exact hA
                · exact hu j (by omega)
              have hn := spec_key l hl m (i + 1) (by omega) hu'
              rw [Bool.true_and, show oka l i = (decide (dp (uf l) i ≤ 8) && nok (rd_T31 l i).f0 (rd_T31 l i).f1 (cnt (uf l) i l.length)) from rfl]
              by_cases c4 : dp (uf l) i ≤ 8
              · rw [decide_eq_true c4, Bool.true_and, nok_shp _ _ _ c3]
                obtain ⟨r, h1, h2⟩ := parts_told l i hl m (i + 1) [] (by omega) (by omega) (cnt_zero hw (i + 1) (Nat.le_refl _)).symm
                have hp : Ev (fun k => spec_l11Parts.f k l (i : Int)) r := by
                  unfold spec_l11Parts.f
                  rw [Pl.w64s i l.length (by omega) (by omega)]
                  exact h1
                refine Ev.congr (f := fun k => (spec_l11Parts.f k l (i : Int)).bind fun t116 => ((spec_l1In.f (t116.length : Int) (shp (rd_T31 l i).f0).1 (shp (rd_T31 l i).f0).2.1).bind fun t119 => (if t119 = true then ((spec_l1In.f (rd_T31 l i).f1 (shp (rd_T31 l i).f0).2.2.1 (shp (rd_T31 l i).f0).2.2.2).bind fun t120 => (if t120 = true then (spec_GoodType.l0 k l l (l.length : Int) (wrap64 ((i : Int) + 1))) else (some false))) else (some false)))) (fun k => by rw [if_pos rfl, if_neg (by omega)]) ?_
                refine Ev.bind hp ?_
                simp only [l1In_told, Option.bind_some, h2]
                rw [Pl.w64s i l.length (by omega) (by omega)]
                by_cases c5 : (shp (rd_T31 l i).f0).1 ≤ (cnt (uf l) i l.length : Int) ∧ (cnt (uf l) i l.length : Int) ≤ (shp (rd_T31 l i).f0).2.1
                · by_cases c6 : (shp (rd_T31 l i).f0).2.2.1 ≤ (rd_T31 l i).f1 ∧ (rd_T31 l i).f1 ≤ (shp (rd_T31 l i).f0).2.2.2
                  · rw [decide_eq_true c5, decide_eq_true c6]
                    simpa using hn
                  · rw [decide_eq_true c5, decide_eq_false c6]
                    exact Pl.ev_const 0 fun k => rfl
                · rw [decide_eq_false c5]
                  exact Pl.ev_const 0 fun k => rfl
              · rw [decide_eq_false c4, Bool.false_and, Bool.false_and]
                exact Pl.ev_const 0 fun k => by rw [if_pos rfl, if_pos (by omega)]
        · have : oka l i = false := by
            unfold oka
            rw [nok_out _ _ _ c3, Bool.and_false]
          rw [this, Bool.and_false, Bool.false_and]
          refine Pl.ev_const 2 fun k => ?_
          simp only [spec_GoodType.l0, spec_GoodType.j1, l1In_told, Option.bind_some, eU, w1]
          rw [if_pos (by omega), if_pos (by omega), if_pos (by omega), if_neg c1, if_pos (decide_eq_true c2), decide_eq_false c3]
          rfl
      · have : upo (uf l) i = false := by
          unfold upo
          by_cases z : i = 0
          · subst z
            rw [if_pos rfl]
            simp only [Int.natCast_zero] at *
            exact decide_eq_false (by omega)
          · rw [if_neg z, Bool.eq_false_iff]
            intro e
            have := ar_le' e
            omega
        rw [this, Bool.false_and, Bool.false_and]
        refine Pl.ev_const 2 fun k => ?_
        simp only [spec_GoodType.l0, spec_GoodType.j1, l1In_told, Option.bind_some, eU, w1]
        rw [if_pos (by omega), if_pos (by omega), if_pos (by omega), if_neg c1, if_neg (by rw [decide_eq_true_eq]; exact c2)]
        rfl
/-- The reference tells tyM. -/
theorem spec_told (l : List S31) : Ev (fun k => spec_GoodType.f k l) (tyM l) := by
  unfold spec_GoodType.f tyM
  simp only [l1In_told, Option.bind_some, decide_eq_true_eq]
  by_cases h : 1 ≤ l.length ∧ l.length ≤ 40
  · rw [decide_eq_true h, Bool.true_and, ← allF_and]
    refine Ev.congr (fun k => if_pos (by omega)) (spec_key l h.2 l.length 0 (by omega) (fun j hj => absurd hj (Nat.not_lt_zero _)))
  · rw [decide_eq_false h, Bool.false_and]
    exact Pl.ev_const 0 fun k => if_neg (by omega)
/-! ### The program's parts -/
/-- The parts of the nodes below i. -/
def KP (u : Int → Int) (n i : Nat) (X : List (List Int)) : Prop := X.length = n ∧ (∀ j : Nat, j < n → (rd_L3 X j).length = cnt u j i) ∧ (∀ j : Nat, j < n → ∀ e ∈ rd_L3 X j, 0 ≤ e ∧ e < n)
theorem kl1 (U : List Int) (X : List (List Int)) (i : Nat) (hl : U.length ≤ 40) (hi : i < U.length) (hX : X.length = U.length) (hx : ∀ j : Nat, j < U.length → (rd_L3 X j).length ≤ 40) (hw : Wf (rd U) i) : ∀ (m : Nat) (p : Int), p < m → -1 ≤ p → p < i → (ar (rd U) (rd U i) p = true → ∀ r, Ev (fun k => impl_kin.l0 k U (X.set (rd U i).toNat (rd_L3 X (rd U i) ++ [(i : Int)])) U U.length ((i + 1 : Nat) : Int)) r → Ev (fun k => impl_kin.l1 k U X i (rd U i) p U U.length i) r) ∧ (ar (rd U) (rd U i) p = false → Ev (fun k => impl_kin.l1 k U X i (rd U i) p U U.length i) ([], false))
  | 0, p, h0, h1, h2 => by
    rw [ar_neg (by omega)]
    refine ⟨fun h => (by cases h), fun _ => Pl.ev_const 1 fun k => ?_⟩
    simp only [impl_kin.l1]
    rw [if_neg (by omega), if_pos (by omega)]
  | m + 1, p, h0, h1, h2 => by
    by_cases hp : p < 0
    · rw [ar_neg (by omega)]
      refine ⟨fun h => (by cases h), fun _ => Pl.ev_const 1 fun k => ?_⟩
      simp only [impl_kin.l1]
      rw [if_neg (by omega), if_pos (by omega)]
    · by_cases e : p = rd U i
      · rw [ar_eq (by omega) e]
        refine ⟨fun _ r hr => Pl.ev_skip 1 (fun k => ?_) hr, fun h => (by cases h)⟩
        have hh := hx (rd U i).toNat (by omega)
        rw [show (((rd U i).toNat : Nat) : Int) = rd U i by omega] at hh
        simp only [impl_kin.l1]
        rw [if_pos (by omega), if_pos e, if_neg (by omega), if_pos (by omega), if_pos (by omega), if_pos (by omega), Pl.w64s i U.length (by omega) (by omega)]
      · have w := hw p (by omega) (by omega)
        rw [ar_up (by omega) e w.2]
        have ih := kl1 U X i hl hi hX hx hw m (rd U p) (by omega) w.1 (by omega)
        have step : ∀ k, impl_kin.l1 (k + 1) U X i (rd U i) p U U.length i = impl_kin.l1 k U X i (rd U i) (rd U p) U U.length i := fun k => by
          simp only [impl_kin.l1]
          rw [if_pos (by omega), if_neg e, if_pos (by omega), if_pos (by omega)]
        exact ⟨fun h r hr => Pl.ev_skip 1 step (ih.1 h r hr), fun h => Pl.ev_skip 1 step (ih.2 h)⟩
theorem rd_set (X : List (List Int)) (a j : Nat) (v : List Int) (h : a < X.length) : rd_L3 (X.set a v) j = if j = a then v else rd_L3 X j := by
  unfold rd_L3
  simp only [Int.toNat_natCast, List.getD_eq_getElem?_getD, List.getElem?_set]
  by_cases e : j = a
  · subst e
    rw [if_pos rfl, if_pos rfl, if_pos h]
    rfl
  · rw [if_neg (fun h => e h.symm), if_neg e]
theorem kin_key (U : List Int) (hl : U.length ≤ 40) : ∀ (m i : Nat) (X : List (List Int)), i + m = U.length → (∀ j, j < i → upo (rd U) j = true) → KP (rd U) U.length i X → ∃ R : List (List Int) × Bool, Ev (fun k => impl_kin.l0 k U X U U.length i) R ∧ R.2 = allF (upo (rd U)) m i ∧ (R.2 = true → KP (rd U) U.length U.length R.1)
  | 0, i, X, h, hu, hX => by
    refine ⟨(X, true), Pl.ev_const 1 fun k => ?_, rfl, fun _ => by rw [show i = U.length by omega] at hX; exact hX⟩
    simp only [impl_kin.l0]
    rw [if_neg (by omega)]
  | m + 1, i, X, h, hu, hX => by
    unfold allF
    have hw := wf_of hu
    by_cases z : i = 0
    · subst z
      by_cases c : rd U 0 = -1
      · have e : upo (rd U) 0 = true := by unfold upo; rw [if_pos rfl]; exact decide_eq_true c
        have hX' : KP (rd U) U.length 1 X := ⟨hX.1, fun j hj => by rw [hX.2.1 j hj]; rfl, hX.2.2⟩
        obtain ⟨R, h1, h2, h3⟩ := kin_key U hl m 1 X (by omega) (fun j hj => by rw [show j = 0 by omega]; exact e) hX'
        refine ⟨R, Pl.ev_skip 1 (fun k => ?_) h1, by rw [e, Bool.true_and]; exact h2, h3⟩
        simp only [impl_kin.l0]
        rw [if_pos (by omega), if_pos (by omega), if_pos (by omega), if_pos (by omega), if_pos (by simpa using c), Pl.w64s 0 U.length (by omega) (by omega)]
      · have e : upo (rd U) 0 = false := by unfold upo; rw [if_pos rfl]; exact decide_eq_false c
        refine ⟨([], false), Pl.ev_const 1 fun k => ?_, by rw [e]; rfl, fun h => by cases h⟩
        simp only [impl_kin.l0]
        rw [if_pos (by omega), if_pos (by omega), if_pos (by omega), if_pos (by omega), if_neg (by simpa using c)]
    · have eu : upo (rd U) i = ar (rd U) (rd U i) ((i : Int) - 1) := by unfold upo; rw [if_neg z]
      have kl := kl1 U X i hl (by omega) hX.1 (fun j hj => by rw [hX.2.1 j hj]; have := cnt_le (rd U) j i; omega) hw (i + 1) ((i : Int) - 1) (by omega) (by omega) (by omega)
      have step : ∀ k, impl_kin.l0 (k + 1) U X U U.length i = impl_kin.l1 k U X i (rd U i) ((i : Int) - 1) U U.length i := fun k => by
        simp only [impl_kin.l0]
        rw [if_pos (by omega), if_pos (by omega), if_pos (by omega), if_neg (by omega), Pl.w64 (by omega) (by omega)]
      rw [eu]
      cases hA : ar (rd U) (rd U i) ((i : Int) - 1) with
      | false => exact ⟨([], false), Pl.ev_skip 1 step (kl.2 hA), rfl, fun h => by cases h⟩
      | true =>
        have le := ar_le' hA
        obtain ⟨a, ha⟩ : ∃ a : Nat, rd U i = a := ⟨(rd U i).toNat, by omega⟩
        have hs : ∀ j : Nat, rd_L3 (X.set (rd U i).toNat (rd_L3 X (rd U i) ++ [(i : Int)])) j = if j = a then rd_L3 X a ++ [(i : Int)] else rd_L3 X j := fun j => by
          rw [ha, Int.toNat_natCast]
          exact rd_set X a j _ (by have := hX.1; omega)
        have hX' : KP (rd U) U.length (i + 1) (X.set (rd U i).toNat (rd_L3 X (rd U i) ++ [(i : Int)])) := by
          refine ⟨by rw [List.length_set]; exact hX.1, fun j hj => ?_, fun j hj => ?_⟩
          · rw [hs j]
            have e : cnt (rd U) j (i + 1) = cnt (rd U) j i + (if 0 < i ∧ rd U i = j then 1 else 0) := rfl
            rw [e]
            by_cases c : j = a
            · rw [if_pos c, if_pos ⟨by omega, by omega⟩, List.length_append, ← c, hX.2.1 j hj]
              rfl
            · rw [if_neg c, if_neg (by omega), hX.2.1 j hj, Nat.add_zero]
          · rw [hs j]
            by_cases c : j = a
            · rw [if_pos c]
              intro e he
              rw [List.mem_append, List.mem_singleton] at he
              rcases he with he | he
              · exact hX.2.2 a (by omega) e he
              · omega
            · rw [if_neg c]; exact hX.2.2 j hj
        have hu' : ∀ j, j < i + 1 → upo (rd U) j = true := fun j hj => by
          by_cases e : j = i
          · rw [e, eu]; exact hA
          · exact hu j (by omega)
        obtain ⟨R, h1, h2, h3⟩ := kin_key U hl m (i + 1) _ (by omega) hu' hX'
        exact ⟨R, Pl.ev_skip 1 step (kl.1 hA R h1), by rw [Bool.true_and]; exact h2, h3⟩
theorem kin_told (U : List Int) (hl : U.length ≤ 40) : ∃ R : List (List Int) × Bool, Ev (fun k => impl_kin.f k U) R ∧ R.2 = allF (upo (rd U)) U.length 0 ∧ (R.2 = true → KP (rd U) U.length U.length R.1) := by
  have hr : ∀ j : Nat, rd_L3 (List.replicate U.length []) j = [] := fun j => by
    unfold rd_L3
    rw [List.getD_eq_getElem?_getD, List.getElem?_replicate]
    split <;> rfl
  obtain ⟨R, h1, h2, h3⟩ := kin_key U hl U.length 0 (List.replicate U.length []) (by omega) (fun j hj => absurd hj (Nat.not_lt_zero _)) ⟨List.length_replicate, fun j hj => by rw [hr]; rfl, fun j hj e he => by rw [hr] at he; cases he⟩
  refine ⟨R, Ev.congr (fun k => ?_) h1, h2, h3⟩
  unfold impl_kin.f
  rw [if_pos (by omega), if_pos (by omega), Int.toNat_natCast]
  rfl
end Go.Proofs.Ytchjmkofdiejhaa.OwnTyQ
