/- A type's nodes, good or not: plain words, and what both sides make of them; no condition of its own. -/
import Derived.Test.YtchjmkofdiejhaaPlainA
import Derived.Test.YtchjmkofdiejhaaPFnExactGoodTypex
namespace Go.Proofs.Ytchjmkofdiejhaa.OwnTyP
open Go Go.RowKit Go.Proofs.YtchjmkofdiejhaaW.PrintWords Go.Proofs.YtchjmkofdiejhaaW.PrintLast Go.Proofs.YtchjmkofdiejhaaW.PrintMore Go.Proofs.Ytchjmkofdiejhaa.PFnExactGoodType
set_option linter.unusedVariables false
set_option linter.unusedSimpArgs false
/-- On the way up from p lies the node q. -/
def ar (u : Int → Int) (q : Int) (p : Int) : Bool := if h : 0 ≤ p then (if p = q then true else if h2 : u p < p then ar u q (u p) else false) else false
  termination_by (p + 1).toNat
  decreasing_by omega
/-- How deep a node lies. -/
def dp (u : Int → Int) (p : Int) : Int := if h : 0 ≤ p then (if h2 : u p < p then 1 + dp u (u p) else 1) else 0
  termination_by (p + 1).toNat
  decreasing_by omega
/-- How many of the nodes behind the first, below n, are parts of i. -/
def cnt (u : Int → Int) (i : Int) : Nat → Nat
  | 0 => 0
  | n + 1 => cnt u i n + (if 0 < n ∧ u n = i then 1 else 0)
theorem cnt_le (u : Int → Int) (i : Int) : ∀ n, cnt u i n ≤ n
  | 0 => Nat.le_refl _
  | n + 1 => by
    have := cnt_le u i n
    unfold cnt
    split <;> omega
def upo (u : Int → Int) (i : Nat) : Bool := if i = 0 then decide (u 0 = -1) else ar u (u i) ((i : Int) - 1)
/-- May a node of this kind have this number and so many parts? -/
def nok (kind n parts : Int) : Bool :=
  if kind = 13 ∨ kind = 17 then decide (n = 0 ∧ parts = 1)
  else if kind = 14 ∨ kind = 15 then decide (n = 0 ∧ 1 ≤ parts ∧ parts ≤ 8)
  else if kind = 18 then decide (n = 0 ∧ parts = 2)
  else if kind = 16 then decide (1 ≤ n ∧ n ≤ 32 ∧ parts = 0)
  else if kind = 19 then decide (1 ≤ n ∧ n ≤ 300 ∧ parts = 0)
  else if kind = 20 ∨ kind = 21 then decide (0 ≤ n ∧ n ≤ 9 ∧ parts = 0)
  else decide (1 ≤ kind ∧ kind ≤ 12 ∧ n = 0 ∧ parts = 0)
def allF (p : Nat → Bool) : Nat → Nat → Bool
  | 0, _ => true
  | m + 1, i => p i && allF p m (i + 1)
theorem allF_and (p q : Nat → Bool) : ∀ m i, allF (fun j => p j && q j) m i = (allF p m i && allF q m i)
  | 0, _ => rfl
  | m + 1, i => by
    unfold allF
    rw [allF_and p q m (i + 1)]
    cases p i <;> cases q i <;> simp
def uf (l : List S31) (i : Int) : Int := (rd_T31 l i).f2
def oka (l : List S31) (i : Nat) : Bool := decide (dp (uf l) i ≤ 8) && nok (rd_T31 l i).f0 (rd_T31 l i).f1 (cnt (uf l) i l.length)
def tyM (l : List S31) : Bool := decide (1 ≤ l.length ∧ l.length ≤ 40) && (allF (upo (uf l)) l.length 0 && allF (oka l) l.length 0)
/-! ### The way up -/
theorem ar_le (u : Int → Int) (q : Int) : ∀ (n : Nat) (p : Int), p < n → ar u q p = true → 0 ≤ q ∧ q ≤ p
  | 0, p, h, e => by
    unfold ar at e
    rw [dif_neg (by omega)] at e
    cases e
  | n + 1, p, h, e => by
    unfold ar at e
    by_cases h0 : 0 ≤ p
    · rw [dif_pos h0] at e
      by_cases h1 : p = q
      · omega
      · rw [if_neg h1] at e
        by_cases h2 : u p < p
        · rw [dif_pos h2] at e
          have := ar_le u q n (u p) (by omega) e
          omega
        · rw [dif_neg h2] at e; cases e
    · rw [dif_neg h0] at e; cases e
theorem ar_le' {u : Int → Int} {q p : Int} (e : ar u q p = true) : 0 ≤ q ∧ q ≤ p := ar_le u q (p + 1).toNat p (by omega) e
def Wf (u : Int → Int) (i : Nat) : Prop := ∀ j : Int, 0 ≤ j → j < i → -1 ≤ u j ∧ u j < j
theorem wf_of {u : Int → Int} {i : Nat} (h : ∀ j, j < i → upo u j = true) : Wf u i := by
  intro j h0 h1
  obtain ⟨m, rfl⟩ : ∃ m : Nat, j = m := ⟨j.toNat, by omega⟩
  have := h m (by omega)
  unfold upo at this
  by_cases z : m = 0
  · rw [if_pos z, decide_eq_true_eq] at this
    subst z
    simp only [Int.natCast_zero] at *
    omega
  · rw [if_neg z] at this
    have := ar_le' this
    omega
theorem cnt_zero {u : Int → Int} {i : Nat} (h : Wf u (i + 1)) : ∀ n, n ≤ i + 1 → cnt u i n = 0
  | 0, _ => rfl
  | n + 1, hn => by
    unfold cnt
    rw [cnt_zero h n (by omega), if_neg]
    rintro ⟨h1, h2⟩
    have := (h n (by omega) (by omega)).2
    omega
/-! ### The reference's two -/
theorem l1In_told (a b c : Int) : spec_l1In.f a b c = some (decide (b ≤ a ∧ a ≤ c)) := by
  unfold spec_l1In.f
  by_cases h : b ≤ a <;> simp [h]
def shp (kind : Int) : Int × Int × Int × Int :=
  if kind = 13 ∨ kind = 17 then (1, 1, 0, 0)
  else if kind = 14 ∨ kind = 15 then (1, 8, 0, 0)
  else if kind = 18 then (2, 2, 0, 0)
  else if kind = 16 then (0, 0, 1, 32)
  else if kind = 19 then (0, 0, 1, 300)
  else if kind = 20 ∨ kind = 21 then (0, 0, 0, 9)
  else (0, 0, 0, 0)
theorem shape_told (kind : Int) : Ev (fun k => spec_l11Shape.f k kind) (shp kind) := by
  refine Pl.ev_const 2 fun k => ?_
  simp only [spec_l11Shape.f, spec_l11Shape.j0, spec_l11Shape.j1]
  unfold shp
  by_cases h13 : kind = 13
  · subst h13; rfl
  · by_cases h17 : kind = 17
    · subst h17; rfl
    · by_cases h14 : kind = 14
      · subst h14; rfl
      · by_cases h15 : kind = 15
        · subst h15; rfl
        · simp only [h13, h14, h15, h17, if_false, or_self, beq_eq_false_iff_ne.2 h13, beq_eq_false_iff_ne.2 h14, beq_eq_false_iff_ne.2 h15, beq_eq_false_iff_ne.2 h17, Bool.false_eq_true]
          by_cases h18 : kind = 18
          · simp only [h18, if_true]
          · by_cases h16 : kind = 16
            · simp only [h18, h16, if_true, if_false]; rfl
            · by_cases h19 : kind = 19
              · simp only [h18, h16, h19, if_true, if_false]; rfl
              · by_cases h20 : kind = 20
                · simp only [h18, h16, h19, h20, if_true, if_false]; rfl
                · by_cases h21 : kind = 21
                  · simp only [h18, h16, h19, h20, h21, if_true, if_false]; rfl
                  · simp only [h18, h16, h19, h20, h21, if_true, if_false, or_self]
theorem nok_shp (kind n parts : Int) (h : 1 ≤ kind ∧ kind ≤ 21) : nok kind n parts = (decide ((shp kind).1 ≤ parts ∧ parts ≤ (shp kind).2.1) && decide ((shp kind).2.2.1 ≤ n ∧ n ≤ (shp kind).2.2.2)) := by
  rw [← Bool.decide_and]
  unfold nok shp
  repeat' split
  all_goals
    rw [decide_eq_decide]
    simp only
    omega
theorem nok_out (kind n parts : Int) (h : ¬ (1 ≤ kind ∧ kind ≤ 21)) : nok kind n parts = false := by
  unfold nok
  repeat (rw [if_neg (by omega)])
  exact decide_eq_false (by omega)
theorem nodeOk_told (kind n up parts : Int) : Ev (fun k => impl_nodeOk.f k kind n up parts) (nok kind n parts) := by
  refine Pl.ev_const 2 fun k => ?_
  simp only [impl_nodeOk.f, impl_nodeOk.j0, impl_nodeOk.j1]
  unfold nok
  by_cases h13 : kind = 13
  · subst h13; by_cases a : n = 0 <;> simp [a] <;> rfl
  · by_cases h17 : kind = 17
    · subst h17; by_cases a : n = 0 <;> simp [a] <;> rfl
    · by_cases h14 : kind = 14
      · subst h14; by_cases a : n = 0 <;> by_cases b : 1 ≤ parts <;> simp [a, b] <;> rfl
      · by_cases h15 : kind = 15
        · subst h15; by_cases a : n = 0 <;> by_cases b : 1 ≤ parts <;> simp [a, b] <;> rfl
        · simp only [h13, h14, h15, h17, if_false, or_self, beq_eq_false_iff_ne.2 h13, beq_eq_false_iff_ne.2 h14, beq_eq_false_iff_ne.2 h15, beq_eq_false_iff_ne.2 h17, Bool.false_eq_true]
          by_cases h18 : kind = 18
          · subst h18; by_cases a : n = 0 <;> simp [a] <;> rfl
          · by_cases h16 : kind = 16
            · subst h16; by_cases a : 1 ≤ n <;> by_cases b : n ≤ 32 <;> simp [a, b] <;> rfl
            · by_cases h19 : kind = 19
              · subst h19; by_cases a : 1 ≤ n <;> by_cases b : n ≤ 300 <;> simp [a, b] <;> rfl
              · by_cases h20 : kind = 20
                · subst h20; by_cases a : 0 ≤ n <;> by_cases b : n ≤ 9 <;> simp [a, b] <;> rfl
                · by_cases h21 : kind = 21
                  · subst h21; by_cases a : 0 ≤ n <;> by_cases b : n ≤ 9 <;> simp [a, b] <;> rfl
                  · simp only [h18, h16, h19, h20, h21, if_true, if_false, or_self]
                    by_cases a : 1 ≤ kind <;> by_cases b : kind ≤ 12 <;> by_cases c : n = 0 <;> simp [a, b, c] <;> rfl
theorem parts_told (l : List S31) (kk : Nat) (hl : l.length ≤ 40) : ∀ (m j : Nat) (out : List Int), j + m = l.length → kk < j → out.length = cnt (uf l) kk j → ∃ r, Ev (fun k => spec_l11Parts.l0 k l kk out j) r ∧ r.length = cnt (uf l) kk l.length
  | 0, j, out, hj, hk, ho => by
    refine ⟨out, Pl.ev_const 1 fun k => ?_, by rw [ho, show j = l.length by omega]⟩
    simp only [spec_l11Parts.l0]
    rw [if_neg (by omega)]
  | m + 1, j, out, hj, hk, ho => by
    have hc := cnt_le (uf l) kk j
    have e : cnt (uf l) kk (j + 1) = cnt (uf l) kk j + (if 0 < j ∧ uf l j = kk then 1 else 0) := rfl
    by_cases c : (rd_T31 l j).f2 = kk
    · obtain ⟨r, h1, h2⟩ := parts_told l kk hl m (j + 1) (out ++ [(j : Int)]) (by omega) (by omega) (by rw [e, if_pos ⟨by omega, c⟩, List.length_append, ho]; rfl)
      refine ⟨r, Pl.ev_skip 1 (fun k => ?_) h1, h2⟩
      simp only [spec_l11Parts.l0]
      rw [if_pos (by omega), if_pos (by omega), if_pos c, if_pos (by omega), Pl.w64s j l.length (by omega) (by omega)]
    · obtain ⟨r, h1, h2⟩ := parts_told l kk hl m (j + 1) out (by omega) (by omega) (by rw [e, if_neg (fun h => c h.2), ho]; rfl)
      refine ⟨r, Pl.ev_skip 1 (fun k => ?_) h1, h2⟩
      simp only [spec_l11Parts.l0]
      rw [if_pos (by omega), if_pos (by omega), if_neg c, Pl.w64s j l.length (by omega) (by omega)]
end Go.Proofs.Ytchjmkofdiejhaa.OwnTyP
