/- Sections: what both sides hold good, the statement's own copies, sizes and comparisons, sections in bytes. -/
import Derived.Test.YtfmmmfddpfddoaaOwnKp
import Derived.Test.YtfmmmfddpfddoaaPl1Sectionsx1
import Derived.Test.YtfmmmfddpfddoaaPsectionsOkx1
import Derived.Test.YtfmmmfddpfddoaaPtoSectionSx1
import Derived.Test.YtfmmmfddpfddoaaPeqSectionSx1
import Derived.Test.YtfmmmfddpfddoaaPszSectionSx1
import Derived.Test.YtfmmmfddpfddoaaPl1Ulebx1
import Derived.Test.YtfmmmfddpfddoaaPUlebBytesx1
namespace Go.Proofs.Ytfmmmfddpfddoaa.OwnSec
open Go Go.RowKit Go.Proofs.YtfmmmfddpfddoaaW.PrintWords Go.Proofs.YtfmmmfddpfddoaaW.PrintLast Go.Proofs.YtfmmmfddpfddoaaW.PrintMore Go.Proofs.Ytfmmmfddpfddoaa.OwnBs Go.Proofs.Ytfmmmfddpfddoaa.OwnKp
set_option linter.unusedVariables false
set_option linter.unusedSimpArgs false
/-- A section: its number and its text. -/
abbrev kS : Kd (Int × ByteArray) := Kd.pair (Kd.int .i64) Kd.string
theorem at_sec {w : World} {A : Option Addr} {n : Nat} {l : List (Int × ByteArray)} (h : Kd.C kS w A n l) (i : Nat) (hi : i < l.length) : ∃ ad, A = some ad ∧ w.cell? (ad.add (i * 2)) = some (.int .i64 l[i].1) ∧ w.cell? ⟨(ad.add (i * 2)).block, (ad.add (i * 2)).off + 1, none⟩ = some (.string l[i].2) := by
  obtain ⟨h1, h2, h3⟩ := h
  obtain ⟨ad, e, h4⟩ := h3 (by omega)
  obtain ⟨c, hc, hk, hu⟩ := h4 i l[i] (List.getElem?_eq_getElem hi)
  obtain ⟨c0, c1, rfl, k0, k1⟩ := hk
  have e0 : c0 = [.int .i64 l[i].1] := k0
  have e1 : c1 = [.string l[i].2] := k1
  subst e0; subst e1
  refine ⟨ad, e, ?_, ?_⟩
  · exact hu 0 _ rfl
  · rw [← add_field ad (i * 2) 1 (by decide)]
    exact hu 1 _ rfl
def sAt (l : List (Int × ByteArray)) (i : Nat) : Int × ByteArray := l.getD i (0, ⟨#[]⟩)
theorem sAt_eq (l : List (Int × ByteArray)) (i : Nat) (h : i < l.length) : sAt l i = l[i] := by
  unfold sAt
  rw [List.getD_eq_getElem?_getD, List.getElem?_eq_getElem h]; rfl
def okAt (l : List (Int × ByteArray)) (i : Nat) : Bool := decide (0 ≤ (sAt l i).1 ∧ (sAt l i).1 ≤ 20 ∧ ((sAt l i).2.size : Int) ≤ 1000 ∧ (0 < i → (sAt l (i - 1)).1 < (sAt l i).1))
def okFrom (l : List (Int × ByteArray)) : Nat → Nat → Bool
  | 0, _ => true
  | m + 1, i => okAt l i && okFrom l m (i + 1)
/-- Good sections. -/
def goodS (l : List (Int × ByteArray)) : Bool := okFrom l l.length 0 && decide (l.length ≤ 20)
theorem okFrom_at (l : List (Int × ByteArray)) : ∀ (m i : Nat), okFrom l m i = true → ∀ j, i ≤ j → j < i + m → okAt l j = true
  | 0, _, _, _, _, _ => by omega
  | m + 1, i, h, j, h1, h2 => by
    unfold okFrom at h
    rw [Bool.and_eq_true] at h
    rcases Nat.lt_or_ge i j with k | k
    · exact okFrom_at l m (i + 1) h.2 j (by omega) (by omega)
    · obtain rfl : i = j := by omega
      exact h.1
theorem goodS_len {l : List (Int × ByteArray)} (h : goodS l = true) : l.length ≤ 20 := by
  unfold goodS at h
  rw [Bool.and_eq_true, decide_eq_true_eq] at h
  exact h.2
theorem goodS_at {l : List (Int × ByteArray)} (h : goodS l = true) (i : Nat) (hi : i < l.length) : 0 ≤ l[i].1 ∧ l[i].1 ≤ 20 ∧ l[i].2.size ≤ 1000 := by
  unfold goodS at h
  rw [Bool.and_eq_true] at h
  have := okFrom_at l _ _ h.1 i (by omega) (by omega)
  unfold okAt at this
  rw [decide_eq_true_eq, sAt_eq l i hi] at this
  omega
theorem prev_idx (i : Nat) (h : 0 < i) (hl : i ≤ 9223372036854775807) : wrap64 ((i : Int) - 1) = ((i - 1 : Nat) : Int) := by
  rw [Pl.w64 (by omega) (by omega)]; omega
def mkA (p : Int × ByteArray) : Pl1Sections.S87 := ⟨p.1, p.2⟩
theorem mkA_rd (l : List (Int × ByteArray)) (i : Nat) (h : i < l.length) : Pl1Sections.rd_T87 (l.map mkA) (i : Int) = mkA (sAt l i) := by
  rw [sAt_eq l i h]
  unfold Pl1Sections.rd_T87
  simp [List.getD_eq_getElem?_getD, List.getElem?_eq_getElem h]
def mkB (p : Int × ByteArray) : PsectionsOk.S87 := ⟨p.1, p.2⟩
theorem mkB_rd (l : List (Int × ByteArray)) (i : Nat) (h : i < l.length) : PsectionsOk.rd_T87 (l.map mkB) (i : Int) = mkB (sAt l i) := by
  rw [sAt_eq l i h]
  unfold PsectionsOk.rd_T87
  simp [List.getD_eq_getElem?_getD, List.getElem?_eq_getElem h]
section
open Pl1Sections
theorem l1In_told (a b c : Int) : spec_l1In.f a b c = some (decide (b ≤ a ∧ a ≤ c)) := by
  unfold spec_l1In.f
  by_cases h : b ≤ a <;> simp [h]

theorem sections_spec (l : List (Int × ByteArray)) (hl : l.length ≤ 35184372088832) : Ev (fun k => spec_l1Sections.f k (l.map mkA)) (goodS l) := by
  have hrd0 : ∀ j : Nat, j < l.length → (Pl1Sections.rd_T87 (l.map mkA) (j : Int)).f0 = (sAt l j).1 := fun j hj => by rw [mkA_rd l j hj]; rfl
  have hrd1 : ∀ j : Nat, j < l.length → (Pl1Sections.rd_T87 (l.map mkA) (j : Int)).f1 = (sAt l j).2 := fun j hj => by rw [mkA_rd l j hj]; rfl
  have key : ∀ (m i : Nat), i + m = l.length → Ev (fun k => spec_l1Sections.l0 k (l.map mkA) (l.map mkA) (l.length : Int) (i : Int)) (okFrom l m i && decide (l.length ≤ 20)) := by
    intro m
    induction m with
    | zero =>
      intro i hi
      refine Pl.ev_const 1 fun k => ?_
      simp only [spec_l1Sections.l0]
      rw [if_neg (by omega)]
      simp only [okFrom, Bool.true_and, Option.some.injEq, decide_eq_decide, List.length_map]
      omega
    | succ m ih =>
      intro i hi
      have step : ∀ k, spec_l1Sections.l0 (k + 1) (l.map mkA) (l.map mkA) (l.length : Int) (i : Int) = if okAt l i = true then spec_l1Sections.l0 k (l.map mkA) (l.map mkA) (l.length : Int) ((i + 1 : Nat) : Int) else some false := by
        intro k
        simp only [spec_l1Sections.l0, List.length_map, hrd0 i (by omega), hrd1 i (by omega)]
        rw [if_pos (by omega), if_pos (by omega), if_pos (by omega), Pl.w64s i l.length (by omega) (by omega)]
        simp only [l1In_told, Option.bind_some, okAt, decide_eq_true_eq]
        by_cases h1 : 0 ≤ (sAt l i).1 ∧ (sAt l i).1 ≤ 20
        · rw [if_pos h1]
          by_cases h2 : ((sAt l i).2.size : Int) > 1000
          · rw [if_pos h2, if_neg (by omega)]
          · rw [if_neg h2]
            by_cases h3 : 0 < i
            · rw [if_pos (show (i : Int) > 0 by omega), prev_idx i h3 (by omega), hrd0 (i - 1) (by omega), if_pos (by omega), if_pos (by omega)]
              by_cases h4 : (sAt l (i - 1)).1 ≥ (sAt l i).1
              · rw [if_pos h4, if_neg (by omega)]
              · rw [if_neg h4, if_pos ⟨h1.1, h1.2, by omega, fun _ => by omega⟩]
            · rw [if_neg (show ¬ (i : Int) > 0 by omega), if_pos ⟨h1.1, h1.2, by omega, fun h => absurd h h3⟩]
        · rw [if_neg h1, if_neg (by omega)]
      unfold okFrom
      by_cases ho : okAt l i = true
      · rw [ho, Bool.true_and]
        exact Pl.ev_skip 1 (fun k => by rw [step, if_pos ho]) (ih (i + 1) (by omega))
      · rw [Bool.eq_false_iff.2 ho, Bool.false_and, Bool.false_and]
        exact Pl.ev_const 1 (fun k => by rw [step, if_neg ho])
  have := key l.length 0 (by omega)
  unfold spec_l1Sections.f
  rw [List.length_map]
  exact this
end
section
open PsectionsOk
theorem sections_impl (l : List (Int × ByteArray)) (hl : l.length ≤ 35184372088832) : Ev (fun k => impl_sectionsOk.f k (l.map mkB)) (goodS l) := by
  have hrd0 : ∀ j : Nat, j < l.length → (PsectionsOk.rd_T87 (l.map mkB) (j : Int)).f0 = (sAt l j).1 := fun j hj => by rw [mkB_rd l j hj]; rfl
  have hrd1 : ∀ j : Nat, j < l.length → (PsectionsOk.rd_T87 (l.map mkB) (j : Int)).f1 = (sAt l j).2 := fun j hj => by rw [mkB_rd l j hj]; rfl
  have key : ∀ (m i : Nat), i + m = l.length → Ev (fun k => impl_sectionsOk.l0 k (l.map mkB) (l.map mkB) (l.length : Int) (i : Int)) (okFrom l m i) := by
    intro m
    induction m with
    | zero =>
      intro i hi
      refine Pl.ev_const 1 fun k => ?_
      simp only [impl_sectionsOk.l0]
      rw [if_neg (by omega)]
      rfl
    | succ m ih =>
      intro i hi
      have step : ∀ k, impl_sectionsOk.l0 (k + 1) (l.map mkB) (l.map mkB) (l.length : Int) (i : Int) = if okAt l i = true then impl_sectionsOk.l0 k (l.map mkB) (l.map mkB) (l.length : Int) ((i + 1 : Nat) : Int) else some false := by
        intro k
        simp only [impl_sectionsOk.l0, List.length_map, hrd0 i (by omega), hrd1 i (by omega)]
        rw [if_pos (by omega), if_pos (by omega), if_pos (by omega), Pl.w64s i l.length (by omega) (by omega)]
        simp only [okAt, decide_eq_true_eq]
        by_cases h0 : (sAt l i).1 < 0
        · rw [if_pos h0, if_neg (by omega)]
        · by_cases h1 : (sAt l i).1 > 20
          · rw [if_neg h0, if_pos h1, if_neg (by omega)]
          · rw [if_neg h0, if_neg h1]
            by_cases h2 : ((sAt l i).2.size : Int) > 1000
            · rw [if_pos h2, if_neg (by omega)]
            · rw [if_neg h2]
              by_cases h3 : 0 < i
              · rw [if_pos (show (i : Int) > 0 by omega), prev_idx i h3 (by omega), hrd0 (i - 1) (by omega), if_pos (by omega), if_pos (by omega)]
                by_cases h4 : (sAt l (i - 1)).1 ≥ (sAt l i).1
                · rw [if_pos h4, if_neg (by omega)]
                · rw [if_neg h4, if_pos ⟨by omega, by omega, by omega, fun _ => by omega⟩]
              · rw [if_neg (show ¬ (i : Int) > 0 by omega), if_pos ⟨by omega, by omega, by omega, fun h => absurd h h3⟩]
      unfold okFrom
      by_cases ho : okAt l i = true
      · rw [ho, Bool.true_and]
        exact Pl.ev_skip 1 (fun k => by rw [step, if_pos ho]) (ih (i + 1) (by omega))
      · rw [Bool.eq_false_iff.2 ho, Bool.false_and]
        exact Pl.ev_const 1 (fun k => by rw [step, if_neg ho])
  have := key l.length 0 (by omega)
  unfold impl_sectionsOk.f goodS
  rw [List.length_map]
  by_cases h : (l.length : Int) > 20
  · simp only [if_pos h]
    rw [decide_eq_false (show ¬ l.length ≤ 20 by omega), Bool.and_false]
    exact Ev.now false
  · simp only [if_neg h]
    rw [decide_eq_true (show l.length ≤ 20 by omega), Bool.and_true]
    exact this
end
theorem good_s (A : Option Addr) (c : Nat) (l : List (Int × ByteArray)) (w : World) (hr : Kd.C kS w A l.length l) (hc : l.length ≤ c) (hl : l.length ≤ 1048576) : Calls Try.prog 60 #[.slice A l.length c] w fun e w' => e = .returned (.bool (goodS l)) ∧ Below w.heap.size w w' := by
  obtain ⟨k, hk⟩ := (sections_spec l (by omega)).rounds
  have h1 : Kd.C Pl1Sections.k87 w A (l.map mkA).length (l.map mkA) := by rw [List.length_map]; exact C_ofmap (fun _ => rfl) hr
  have := Pl1Sections.spec_l1Sections.calls k A c (l.map mkA) _ w h1 (by rw [List.length_map]; exact hc) hk
  rw [List.length_map] at this
  exact this.mono fun e w' h => ⟨h.1, by first | exact h.2 | exact h.2.below⟩
theorem good_i (A : Option Addr) (c : Nat) (l : List (Int × ByteArray)) (w : World) (hr : Kd.C kS w A l.length l) (hc : l.length ≤ c) (hl : l.length ≤ 1048576) : Calls Try.prog 63 #[.slice A l.length c] w fun e w' => e = .returned (.bool (goodS l)) ∧ Below w.heap.size w w' := by
  obtain ⟨k, hk⟩ := (sections_impl l (by omega)).rounds
  have h1 : Kd.C PsectionsOk.k87 w A (l.map mkB).length (l.map mkB) := by rw [List.length_map]; exact C_ofmap (fun _ => rfl) hr
  have := PsectionsOk.impl_sectionsOk.calls k A c (l.map mkB) _ w h1 (by rw [List.length_map]; exact hc) hk
  rw [List.length_map] at this
  exact this.mono fun e w' h => ⟨h.1, by first | exact h.2 | exact h.2.below⟩
def mkT (p : Int × ByteArray) : PtoSectionS.S85 := ⟨p.1, p.2⟩
theorem mkT_rd (l : List (Int × ByteArray)) (i : Nat) (h : i < l.length) : PtoSectionS.rd_T85 (l.map mkT) (i : Int) = mkT (sAt l i) := by
  rw [sAt_eq l i h]
  unfold PtoSectionS.rd_T85
  simp [List.getD_eq_getElem?_getD, List.getElem?_eq_getElem h]
def mkU (p : Int × ByteArray) : PtoSectionS.S87 := ⟨p.1, p.2⟩
def mkE (p : Int × ByteArray) : PeqSectionS.S87 := ⟨p.1, p.2⟩
theorem mkE_rd (l : List (Int × ByteArray)) (i : Nat) (h : i < l.length) : PeqSectionS.rd_T87 (l.map mkE) (i : Int) = mkE (sAt l i) := by
  rw [sAt_eq l i h]
  unfold PeqSectionS.rd_T87
  simp [List.getD_eq_getElem?_getD, List.getElem?_eq_getElem h]
def mkZ (p : Int × ByteArray) : PszSectionS.S85 := ⟨p.1, p.2⟩
theorem mkZ_rd (l : List (Int × ByteArray)) (i : Nat) (h : i < l.length) : PszSectionS.rd_T85 (l.map mkZ) (i : Int) = mkZ (sAt l i) := by
  rw [sAt_eq l i h]
  unfold PszSectionS.rd_T85
  simp [List.getD_eq_getElem?_getD, List.getElem?_eq_getElem h]
theorem toSectionS_told (l : List (Int × ByteArray)) (hl : l.length ≤ 1048576) : Ev (fun k => PtoSectionS.laws_toSectionS.f k (l.map mkT)) (l.map mkU) := by
  have hm : (l.map mkT).length = l.length := List.length_map ..
  have hb : (l.map mkU).length = l.length := List.length_map ..
  have key : ∀ (m i : Nat), i + m = l.length → Ev (fun k => PtoSectionS.laws_toSectionS.l0 k (l.map mkT) ((l.map mkU).take i ++ List.replicate ((l.map mkU).length - i) PtoSectionS.z87) (i : Int)) (l.map mkU) := by
    intro m
    induction m with
    | zero =>
      intro i hi
      refine Pl.ev_const 1 fun k => ?_
      simp only [PtoSectionS.laws_toSectionS.l0]
      rw [if_neg (by omega), show i = (l.map mkU).length by omega, Nat.sub_self, List.take_length]
      simp
    | succ m ih =>
      intro i hi
      refine Pl.ev_skip 1 (fun k => ?_) (ih (i + 1) (by omega))
      show PtoSectionS.laws_toSectionS.l0 (k + 1) _ _ (i : Int) = _
      simp only [PtoSectionS.laws_toSectionS.l0]
      rw [if_pos (by omega), if_pos (by omega), mkT_rd l i (by omega)]
      show (if _ then _ else _) = _
      rw [if_pos (by rw [Pl.set_step_len _ _ i (by omega)]; omega), Pl.w64s i l.length (by omega) (by omega), Int.toNat_natCast]
      have := Pl.set_step (l.map mkU) PtoSectionS.z87 (mkU l[i]) i (by omega)
      rw [← this]
      congr 2
      rw [sAt_eq l i (by omega)]
      simp [List.getD_eq_getElem?_getD, List.getElem?_eq_getElem (show i < l.length by omega)]
      rfl
  unfold PtoSectionS.laws_toSectionS.f
  rw [hm]
  simp only [if_pos (show 0 ≤ (l.length : Int) by omega), Int.toNat_natCast, if_pos (show l.length ≤ 11728124029610 by omega)]
  have := key l.length 0 (by omega)
  rw [hb] at this
  simpa using this
theorem eqSectionS_told (l : List (Int × ByteArray)) (hl : l.length ≤ 1048576) : Ev (fun k => PeqSectionS.laws_eqSectionS.f k (l.map mkE) (l.map mkE)) true := by
  have hm : (l.map mkE).length = l.length := List.length_map ..
  have key : ∀ (m i : Nat), i + m = l.length → Ev (fun k => PeqSectionS.laws_eqSectionS.l0 k (l.map mkE) (l.map mkE) (i : Int)) true := by
    intro m
    induction m with
    | zero =>
      intro i hi
      refine Pl.ev_const 1 fun k => ?_
      simp only [PeqSectionS.laws_eqSectionS.l0]
      rw [if_neg (by omega)]
    | succ m ih =>
      intro i hi
      refine Pl.ev_skip 1 (fun k => ?_) (ih (i + 1) (by omega))
      show PeqSectionS.laws_eqSectionS.l0 (k + 1) _ _ (i : Int) = _
      simp only [PeqSectionS.laws_eqSectionS.l0, PeqSectionS.laws_eqSection.f]
      rw [if_pos (by omega), if_pos (by omega), if_pos (by omega), Pl.w64s i l.length (by omega) (by omega)]
      simp
  unfold PeqSectionS.laws_eqSectionS.f
  simp only [eq_self, if_true]
  exact key l.length 0 (by omega)
/-- What is left of a budget. -/
def leftT (x a : Int) : Int := if wrap64 (a - x) < 0 then -1 else wrap64 (a - x)
def leftL : List (Int × ByteArray) → Int → Int
  | [], a => a
  | x :: t, a => if leftT x.2.size a < 0 then -1 else leftL t (leftT x.2.size a)
def leftM (l : List (Int × ByteArray)) (a : Int) : Int := if wrap64 (a - l.length) < 0 then -1 else leftL l (wrap64 (a - l.length))
theorem szSectionS_told (l : List (Int × ByteArray)) (a : Int) (hl : l.length ≤ 9223372036854775807) : Ev (fun k => PszSectionS.laws_szSectionS.f k (l.map mkZ) a) (leftM l a) := by
  have hm : (l.map mkZ).length = l.length := List.length_map ..
  have key : ∀ (m i : Nat) (b : Int), i + m = l.length → Ev (fun k => PszSectionS.laws_szSectionS.l0 k (l.map mkZ) b (i : Int)) (leftL (l.drop i) b) := by
    intro m
    induction m with
    | zero =>
      intro i b hi
      rw [List.drop_of_length_le (by omega)]
      refine Pl.ev_const 1 fun k => ?_
      simp only [PszSectionS.laws_szSectionS.l0]
      rw [if_neg (by omega)]
      rfl
    | succ m ih =>
      intro i b hi
      have e1 : PszSectionS.laws_szSection.f (mkZ (sAt l i)).f0 (mkZ (sAt l i)).f1 b = some (leftT l[i].2.size b) := by
        rw [sAt_eq l i (by omega)]
        show PszSectionS.laws_szSection.f l[i].1 l[i].2 b = _
        unfold PszSectionS.laws_szSection.f leftT
        split <;> rfl
      rw [List.drop_eq_getElem_cons (show i < l.length by omega)]
      unfold leftL
      by_cases hn : leftT l[i].2.size b < 0
      · rw [if_pos hn]
        refine Pl.ev_const 1 fun k => ?_
        show PszSectionS.laws_szSectionS.l0 (k + 1) _ _ (i : Int) = _
        simp only [PszSectionS.laws_szSectionS.l0]
        rw [if_pos (by omega), if_pos (by omega), mkZ_rd l i (by omega), e1, Option.bind_some, if_pos hn]
      · rw [if_neg hn]
        refine Pl.ev_skip 1 (fun k => ?_) (ih (i + 1) _ (by omega))
        show PszSectionS.laws_szSectionS.l0 (k + 1) _ _ (i : Int) = _
        simp only [PszSectionS.laws_szSectionS.l0]
        rw [if_pos (by omega), if_pos (by omega), mkZ_rd l i (by omega), e1, Option.bind_some, if_neg hn, Pl.w64s i l.length (by omega) (by omega)]
  unfold PszSectionS.laws_szSectionS.f leftM
  rw [hm]
  by_cases hn : wrap64 (a - (l.length : Int)) < 0
  · simp only [if_pos hn]
    exact Ev.now (-1)
  · simp only [if_neg hn]
    exact key l.length 0 _ (by omega)
theorem toSec (A : Option Addr) (c : Nat) (l : List (Int × ByteArray)) (w : World) (hr : Kd.C kS w A l.length l) (hc : l.length ≤ c) (hl : l.length ≤ 1048576) : Calls Try.prog 21 #[.slice A l.length c] w fun e w' => ∃ A' c', e = .returned (.slice A' l.length c') ∧ l.length ≤ c' ∧ Kd.C kS w' A' l.length l ∧ Below w.heap.size w w' := by
  obtain ⟨k, hk⟩ := (toSectionS_told l hl).rounds
  have h1 : Kd.C PtoSectionS.k85 w A (l.map mkT).length (l.map mkT) := by rw [List.length_map]; exact C_ofmap (fun _ => rfl) hr
  have := PtoSectionS.laws_toSectionS.calls k A c (l.map mkT) _ w h1 (by rw [List.length_map]; exact hc) hk
  rw [List.length_map] at this
  refine this.mono ?_
  rintro e w' ⟨v, rfl, hR, hb⟩
  obtain ⟨A', c', rfl⟩ := Kd.R_slice hR
  obtain ⟨_, h2, h3⟩ := Kd.R_reads' hR
  rw [List.length_map] at h2 h3 ⊢
  have h4 := C_tomap h3
  rw [List.map_map] at h4
  rw [show ((fun x : PtoSectionS.S87 => (x.f0, x.f1)) ∘ mkU) = id from rfl, List.map_id] at h4
  exact ⟨A', c', rfl, h2, h4, hb⟩
theorem eqSec (A : Option Addr) (c : Nat) (A' : Option Addr) (c' : Nat) (l : List (Int × ByteArray)) (w : World) (hr : Kd.C kS w A l.length l) (hc : l.length ≤ c) (hr' : Kd.C kS w A' l.length l) (hc' : l.length ≤ c') (hl : l.length ≤ 1048576) : Calls Try.prog 23 #[.slice A l.length c, .slice A' l.length c'] w fun e w' => e = .returned (.bool true) ∧ Below w.heap.size w w' := by
  obtain ⟨k, hk⟩ := (eqSectionS_told l hl).rounds
  have h1 : Kd.C PeqSectionS.k87 w A (l.map mkE).length (l.map mkE) := by rw [List.length_map]; exact C_ofmap (fun _ => rfl) hr
  have h2 : Kd.C PeqSectionS.k87 w A' (l.map mkE).length (l.map mkE) := by rw [List.length_map]; exact C_ofmap (fun _ => rfl) hr'
  have := PeqSectionS.laws_eqSectionS.calls k A c (l.map mkE) A' c' (l.map mkE) true w h1 (by rw [List.length_map]; exact hc) h2 (by rw [List.length_map]; exact hc') hk
  rw [List.length_map] at this
  exact this.mono fun e w' h => ⟨h.1, by first | exact h.2 | exact h.2.below⟩
theorem szSec (A : Option Addr) (c : Nat) (l : List (Int × ByteArray)) (a : Int) (w : World) (hr : Kd.C kS w A l.length l) (hc : l.length ≤ c) (hl : l.length ≤ 9223372036854775807) : Calls Try.prog 19 #[.slice A l.length c, .int .i64 a] w fun e w' => e = .returned (.int .i64 (leftM l a)) ∧ Below w.heap.size w w' := by
  obtain ⟨k, hk⟩ := (szSectionS_told l a hl).rounds
  have h1 : Kd.C PszSectionS.k85 w A (l.map mkZ).length (l.map mkZ) := by rw [List.length_map]; exact C_ofmap (fun _ => rfl) hr
  have := PszSectionS.laws_szSectionS.calls k A c (l.map mkZ) a _ w h1 (by rw [List.length_map]; exact hc) hk
  rw [List.length_map] at this
  exact this.mono fun e w' h => ⟨h.1, by first | exact h.2 | exact h.2.below⟩
section
open Pl1Uleb PUlebBytes
/-! ### Numbers in bytes: both loops are one, and they end -/
theorem uleb_byte (x : Int) (h0 : 0 ≤ x) : (bits .or .u64 (bits .and .u64 x 127) 128) % 256 = bits .or .u8 (x % 256) 128 := by
  rw [Pl.and127 .u64 (by decide), Pl.or_u8_128 (x % 256) (by omega) (by omega), Pl.or_join_u64 7 (x % 128) 128 (by omega) (by omega) (by omega) (by decide) (by omega) (by decide)]
  omega
theorem uleb_same : ∀ (k : Nat) (x : Int) (acc : List Int), 0 ≤ x → spec_l1Uleb.l0 k x acc = impl_UlebBytes.l0 k x acc
  | 0, _, _, _ => rfl
  | k + 1, x, acc, h0 => by
    simp only [spec_l1Uleb.l0, impl_UlebBytes.l0]
    by_cases h : x > 127
    · rw [if_pos h, if_pos (show x ≥ 128 by omega), uleb_byte x h0, uleb_same k _ _ (by omega)]
    · rw [if_neg h, if_neg (show ¬ x ≥ 128 by omega)]
theorem uleb_ends : ∀ (m : Nat) (x : Int) (acc : List Int), 0 ≤ x → x < 128 ^ (m + 1) → acc.length + m < 140737488355328 →
    ∃ r : ByteArray, (∀ k, m < k → spec_l1Uleb.l0 k x acc = some r) ∧ r.size ≤ acc.length + m + 1
  | 0, x, acc, h0, h1, hl => by
    refine ⟨strOfNums (acc ++ [x % 256]), fun k hk => ?_, by rw [Pl.strOfNums_size]; simp only [List.length_append, List.length_singleton]; omega⟩
    obtain ⟨k, rfl⟩ : ∃ j, k = j + 1 := ⟨k - 1, by omega⟩
    simp only [spec_l1Uleb.l0]
    rw [if_neg (by omega), if_pos (by omega)]
  | m + 1, x, acc, h0, h1, hl => by
    by_cases h : x > 127
    · obtain ⟨r, hr, hs⟩ := uleb_ends m (x / 128) (acc ++ [(bits .or .u64 (bits .and .u64 x 127) 128) % 256]) (by omega) (by
        rw [Int.pow_succ] at h1; exact Int.ediv_lt_of_lt_mul (by decide) (by omega)) (by simp; omega)
      refine ⟨r, fun k hk => ?_, by simp at hs; omega⟩
      obtain ⟨k, rfl⟩ : ∃ j, k = j + 1 := ⟨k - 1, by omega⟩
      simp only [spec_l1Uleb.l0]
      rw [if_pos h, if_pos (by omega)]
      exact hr k (by omega)
    · refine ⟨strOfNums (acc ++ [x % 256]), fun k hk => ?_, by rw [Pl.strOfNums_size]; simp only [List.length_append, List.length_singleton]; omega⟩
      obtain ⟨k, rfl⟩ : ∃ j, k = j + 1 := ⟨k - 1, by omega⟩
      simp only [spec_l1Uleb.l0]
      rw [if_neg h, if_pos (by omega)]
/-- What both come to. -/
theorem uleb_told (x : Int) (h0 : 0 ≤ x) (h1 : x < 18446744073709551616) : ∃ r : ByteArray, r.size ≤ 10 ∧ Ev (fun k => spec_l1Uleb.f k x) r ∧ Ev (fun k => impl_UlebBytes.f k x) r := by
  obtain ⟨r, hr, hs⟩ := uleb_ends 9 x [] h0 (by omega) (by simp)
  refine ⟨r, by simpa using hs, ⟨10, fun k hk => hr k (by omega)⟩, ⟨10, fun k hk => ?_⟩⟩
  show impl_UlebBytes.l0 k x [] = some r
  rw [← uleb_same k x [] h0]
  exact hr k (by omega)

def ulebS (x : Int) : ByteArray := (spec_l1Uleb.f 11 x).getD ⟨#[]⟩
theorem ulebS_told (x : Int) (h0 : 0 ≤ x) (h1 : x < 18446744073709551616) : (ulebS x).size ≤ 10 ∧ Ev (fun k => spec_l1Uleb.f k x) (ulebS x) ∧ Ev (fun k => impl_UlebBytes.f k x) (ulebS x) := by
  obtain ⟨r, hr, hs⟩ := uleb_ends 9 x [] h0 (by omega) (by simp)
  have e : ulebS x = r := by unfold ulebS; rw [show spec_l1Uleb.f 11 x = some r from hr 11 (by omega)]; rfl
  rw [e]
  refine ⟨by simpa using hs, ⟨10, fun k hk => hr k (by omega)⟩, ⟨10, fun k hk => ?_⟩⟩
  show impl_UlebBytes.l0 k x [] = some r
  rw [← uleb_same k x [] h0]
  exact hr k (by omega)
theorem uleb_s (x : Int) (h0 : 0 ≤ x) (h1 : x < 18446744073709551616) (w : World) : Calls Try.prog 61 #[.int .u64 x] w fun e w' => e = .returned (.string (ulebS x)) ∧ Below w.heap.size w w' := by
  obtain ⟨k, hk⟩ := (ulebS_told x h0 h1).2.1.rounds
  exact spec_l1Uleb.calls k x _ w hk
theorem uleb_i (x : Int) (h0 : 0 ≤ x) (h1 : x < 18446744073709551616) (w : World) : Calls Try.prog 66 #[.int .u64 x] w fun e w' => e = .returned (.string (ulebS x)) ∧ Below w.heap.size w w' := by
  obtain ⟨k, hk⟩ := (ulebS_told x h0 h1).2.2.rounds
  exact impl_UlebBytes.calls k x _ w hk
end
/-- A section in bytes. -/
def secS (x : Int × ByteArray) : ByteArray := strOfNums [x.1] ++ ulebS (x.2.size : Int) ++ x.2
def allS (l : List (Int × ByteArray)) : ByteArray := l.foldl (fun s x => s ++ secS x) ⟨#[]⟩
theorem allS_snoc (l : List (Int × ByteArray)) (i : Nat) (h : i < l.length) : allS (l.take (i + 1)) = allS (l.take i) ++ secS l[i] := by
  unfold allS
  rw [List.take_succ_eq_append_getElem h, List.foldl_append]
  rfl
theorem secS_size {x : Int × ByteArray} (h : x.2.size ≤ 1000) : (secS x).size ≤ 1011 := by
  unfold secS
  have := (ulebS_told (x.2.size : Int) (by omega) (by omega)).1
  rw [ByteArray.size_append, ByteArray.size_append, Pl.strOfNums_size, List.length_singleton]
  omega
theorem lit1_kept (x : Int) (X W : World) (hB : Below (X.alloc (.cells #[.int .u8 x] 5)).heap.size (X.alloc (.cells #[.int .u8 x] 5)) W) : (convert 80 9 (.slice (some ⟨X.heap.size, 0, none⟩) 1 1)).run Try.prog W = .ok (.string (strOfNums [x])) W := by
  refine run_convert_bytes_arg W 80 5 Try.underlying80 Try.underlying5 X.heap.size 0 1 1 [x] rfl (fun i hi => ?_) 9 Try.underlying9
  obtain rfl : i = 0 := by omega
  have h1 := (bcell hB).1 X.heap.size 0 (by simp)
  refine h1.trans ?_
  go_simp
theorem lit1_drew (x : Int) (X : World) : (convert 80 9 (.slice (some ⟨X.heap.size, 0, none⟩) 1 1)).run Try.prog (X.alloc (.cells #[.int .u8 x] 5)).drew = .ok (.string (strOfNums [x])) (X.alloc (.cells #[.int .u8 x] 5)).drew :=
  own_string (P := Try.prog) Try.underlying80 Try.underlying5 Try.underlying9 (own_drew (Bs.lit (w0 := X) (Below.refl _ _) [x] (by simp)).own)
theorem lit1_drew1 (x : Int) (X : World) (o : Obj) : (convert 80 9 (.slice (some ⟨X.heap.size + 1, 0, none⟩) 1 1)).run Try.prog ((X.alloc o).alloc (.cells #[.int .u8 x] 5)).drew = .ok (.string (strOfNums [x])) ((X.alloc o).alloc (.cells #[.int .u8 x] 5)).drew := by
  rw [show X.heap.size + 1 = (X.alloc o).heap.size by simp]
  exact lit1_drew x (X.alloc o)
theorem lit1_kept1 (x : Int) (X W : World) (o : Obj) (hB : Below ((X.alloc o).alloc (.cells #[.int .u8 x] 5)).heap.size ((X.alloc o).alloc (.cells #[.int .u8 x] 5)) W) : (convert 80 9 (.slice (some ⟨X.heap.size + 1, 0, none⟩) 1 1)).run Try.prog W = .ok (.string (strOfNums [x])) W := by
  rw [show X.heap.size + 1 = (X.alloc o).heap.size by simp]
  exact lit1_kept x (X.alloc o) W hB
/-- What SectionsBytes tells. -/
def secM (l : List (Int × ByteArray)) : ByteArray × Bool := if goodS l = true then (if 4000 < (allS l).size then (⟨#[]⟩, false) else (allS l, true)) else (⟨#[]⟩, false)
end Go.Proofs.Ytfmmmfddpfddoaa.OwnSec
