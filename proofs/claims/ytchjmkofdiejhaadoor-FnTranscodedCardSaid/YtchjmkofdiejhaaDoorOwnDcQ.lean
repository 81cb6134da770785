/- Texts in three codes, read to their end: plain laws; no condition of its own. -/
import Derived.Test.YtchjmkofdiejhaaDoorOwnDcP
namespace Go.Proofs.YtchjmkofdiejhaaDoor.OwnDcQ
open Go Go.RowKit Go.Proofs.YtchjmkofdiejhaaDoorW.PrintWords Go.Proofs.YtchjmkofdiejhaaDoorW.PrintLast Go.Proofs.YtchjmkofdiejhaaDoorW.PrintMore Go.Proofs.YtchjmkofdiejhaaDoor.OwnDcP
set_option linter.unusedVariables false
set_option linter.unusedSimpArgs false
/-! ### UTF-16 -/
def w0 (s : ByteArray) : Int := bt s 0 + bt s 1 * 256
def w1 (s : ByteArray) : Int := bt s 2 + bt s 3 * 256
def t16 (s : ByteArray) : Int × Int := if s.size < 2 then (0, 0) else if w0 s < 55296 ∨ 57343 < w0 s then (w0 s, 2) else if 56320 ≤ w0 s ∨ s.size < 4 then (0, 0) else if w1 s < 56320 ∨ 57343 < w1 s then (0, 0) else (65536 + (w0 s - 55296) * 1024 + w1 s - 56320, 4)
def s16 (s : ByteArray) : Int × Int := if s.size < 2 then (0, 0) else if (55296 ≤ w0 s ∧ w0 s ≤ 56319) ∧ 3 < s.size ∧ (56320 ≤ w1 s ∧ w1 s ≤ 57343) then (w0 s % 1024 * 1024 + w1 s % 1024 + 65536, 4) else (w0 s, 2)
theorem pair_or (a b : Int) (ha : 0 ≤ a ∧ a ≤ 255) (hb : 0 ≤ b ∧ b ≤ 255) : bits .or .i64 (wrap64 a) (wrap64 (wrap64 b * 256)) = a + b * 256 := by
  rw [Pl.w64 (n := b) (by omega) (by omega), Pl.w64 (n := a) (by omega) (by omega), Pl.w64 (n := b * 256) (by omega) (by omega), Pl.or_comm, or_hi 8 (b * 256) a (by omega) (by omega) (by omega) (by omega) (by omega)]
  omega
theorem w0_range (s : ByteArray) : 0 ≤ w0 s ∧ w0 s ≤ 65535 := by
  have h0 := bt_range s 0
  have h1 := bt_range s 1
  unfold w0; omega
theorem w1_range (s : ByteArray) : 0 ≤ w1 s ∧ w1 s ≤ 65535 := by
  have h0 := bt_range s 2
  have h1 := bt_range s 3
  unfold w1; omega
section
open Ptake16
theorem t16_told (s : ByteArray) : Ev (fun k => impl_take16.f k s) (t16 s) := by
  have hw := w0_range s
  have hv := w1_range s
  have e0 : bits .or .i64 (wrap64 (bt s 0)) (wrap64 (wrap64 (bt s 1) * 256)) = w0 s := pair_or _ _ (bt_range s 0) (bt_range s 1)
  have e1 : bits .or .i64 (wrap64 (bt s 2)) (wrap64 (wrap64 (bt s 3) * 256)) = w1 s := pair_or _ _ (bt_range s 2) (bt_range s 3)
  have j1 : ∀ k (c : Bool), (c = false → 4 ≤ s.size) → 55296 ≤ w0 s → w0 s < 56320 ∨ c = true → impl_take16.j1 (k + 1) s (w0 s) c = some (if c = true then (0, 0) else if w1 s < 56320 ∨ 57343 < w1 s then (0, 0) else (65536 + (w0 s - 55296) * 1024 + w1 s - 56320, 4)) := by
    intro k c hc hw2 hw3
    rw [impl_take16.j1]
    cases c with
    | true => rw [if_pos rfl, if_pos rfl]
    | false =>
      have h4 := hc rfl
      simp only [Bool.false_eq_true, if_false]
      rw [if_pos (by omega), if_pos (by omega), e1]
      by_cases c1 : w1 s < 56320
      · rw [if_pos c1, if_pos (.inl c1)]
      · rw [if_neg c1]
        by_cases c2 : w1 s > 57343
        · rw [if_pos c2, if_pos (.inr c2)]
        · have hw4 : w0 s < 56320 := by rcases hw3 with h | h; exact h; cases h
          rw [if_neg c2, if_neg (by omega), Pl.w64 (n := w0 s - 55296) (by omega) (by omega), Pl.w64 (n := (w0 s - 55296) * 1024) (by omega) (by omega), Pl.w64 (n := 65536 + (w0 s - 55296) * 1024) (by omega) (by omega), Pl.w64 (n := 65536 + (w0 s - 55296) * 1024 + w1 s) (by omega) (by omega), Pl.w64 (by omega) (by omega)]
  unfold impl_take16.f t16
  simp only [e0]
  by_cases c1 : s.size < 2
  · simp only [if_pos (show (s.size : Int) < 2 by omega), if_pos c1]
    exact Ev.now _
  · simp only [if_neg (show ¬ (s.size : Int) < 2 by omega), if_neg c1, if_pos (show (0 : Int) < (s.size : Int) by omega), if_pos (show (1 : Int) < (s.size : Int) by omega)]
    by_cases c2 : w0 s < 55296
    · simp only [if_pos c2, if_pos (show w0 s < 55296 ∨ 57343 < w0 s from .inl c2)]
      refine Pl.ev_const 1 fun k => ?_
      show impl_take16.j0 (k + 1) s _ true = _
      rw [impl_take16.j0, if_pos rfl]
    · simp only [if_neg c2]
      by_cases c3 : 57343 < w0 s
      · simp only [decide_eq_true (show w0 s > 57343 from c3), if_pos (show w0 s < 55296 ∨ 57343 < w0 s from .inr c3)]
        refine Pl.ev_const 1 fun k => ?_
        show impl_take16.j0 (k + 1) s _ true = _
        rw [impl_take16.j0, if_pos rfl]
      · simp only [decide_eq_false (show ¬ w0 s > 57343 from c3), if_neg (show ¬ (w0 s < 55296 ∨ 57343 < w0 s) by omega)]
        refine Pl.ev_const 2 fun k => ?_
        show impl_take16.j0 (k + 1 + 1) s _ false = _
        rw [impl_take16.j0, if_neg (by decide)]
        by_cases c4 : w0 s ≥ 56320
        · rw [if_pos c4, j1 k true (fun h => by cases h) (by omega) (.inr rfl), if_pos rfl, if_pos (.inl c4)]
        · rw [if_neg c4]
          by_cases c5 : s.size < 4
          · rw [decide_eq_true (by omega), j1 k true (fun h => by cases h) (by omega) (.inr rfl), if_pos rfl, if_pos (.inr c5)]
          · rw [decide_eq_false (by omega), j1 k false (fun _ => by omega) (by omega) (.inl (by omega)), if_neg (by decide), if_neg (show ¬ (56320 ≤ w0 s ∨ s.size < 4) by omega)]
end
theorem like16 (s : ByteArray) : Like (s16 s) (t16 s) := by
  have hw := w0_range s
  have hv := w1_range s
  unfold s16 t16
  by_cases c1 : s.size < 2
  · rw [if_pos c1, if_pos c1]; exact like_no (.inl rfl) rfl
  · rw [if_neg c1, if_neg c1]
    by_cases c2 : w0 s < 55296 ∨ 57343 < w0 s
    · rw [if_pos c2, if_neg (by omega)]
      exact like_ok (by simp) (good_dec.2 (by simp only; omega)) rfl
    · rw [if_neg c2]
      by_cases c3 : (55296 ≤ w0 s ∧ w0 s ≤ 56319) ∧ 3 < s.size ∧ (56320 ≤ w1 s ∧ w1 s ≤ 57343)
      · rw [if_pos c3, if_neg (by omega), if_neg (by omega)]
        refine like_ok (by simp) (good_dec.2 (by simp only; omega)) ?_
        congr 1
        omega
      · rw [if_neg c3]
        refine like_no (.inr (bad_dec.2 (by simp only; omega))) ?_
        by_cases c4 : 56320 ≤ w0 s ∨ s.size < 4
        · rw [if_pos c4]
        · rw [if_neg c4, if_pos (by omega)]
/-! ### A step in each code -/
def sp (code : Int) (s : ByteArray) : Int × Int := if code = 1 then oneM s else if code = 2 then s16 s else (bt s 0, 1)
def im (code : Int) (s : ByteArray) : Int × Int := if code = 1 then goM s else if code = 2 then t16 s else (bt s 0, 1)
theorem like_all (code : Int) (s : ByteArray) (h : 0 < s.size) : Like (sp code s) (im code s) := by
  unfold sp im
  by_cases c1 : code = 1
  · rw [if_pos c1, if_pos c1]; exact one_go s h
  · rw [if_neg c1, if_neg c1]
    by_cases c2 : code = 2
    · rw [if_pos c2, if_pos c2]; exact like16 s
    · rw [if_neg c2, if_neg c2]
      have := bt_range s 0
      exact like_ok (by simp) (good_dec.2 (by simp only; omega)) rfl
theorem oneN_le (s : ByteArray) (n : Nat) (p : Int) : (oneN s n p).2 = 0 ∨ ((oneN s n p).2 = n ∧ n ≤ s.size) := by
  unfold oneN
  split
  · exact .inl rfl
  · split
    · exact .inr ⟨rfl, by omega⟩
    · exact .inl rfl
theorem sp_le (code : Int) (s : ByteArray) (h : 0 < s.size) : 0 ≤ (sp code s).2 ∧ (sp code s).2 ≤ s.size := by
  unfold sp
  split
  · unfold oneM
    split
    · rcases oneN_le s 4 _ with h | ⟨h, h'⟩ <;> rw [h] <;> omega
    · split
      · rcases oneN_le s 3 _ with h | ⟨h, h'⟩ <;> rw [h] <;> omega
      · split
        · rcases oneN_le s 2 _ with h | ⟨h, h'⟩ <;> rw [h] <;> omega
        · rcases oneN_le s 1 _ with h | ⟨h, h'⟩ <;> rw [h] <;> omega
  · split
    · unfold s16
      split
      · simp
      · split
        · simp only; omega
        · simp only; omega
    · simp only; omega
theorem im_le (code : Int) (s : ByteArray) (h : 0 < s.size) : 0 ≤ (im code s).2 ∧ (im code s).2 ≤ s.size ∧ ((im code s).2 ≠ 0 → goodB (im code s).1 = true) := by
  have h1 := like_all code s h
  have h2 := sp_le code s h
  unfold Like at h1
  split at h1
  · rename_i k; rw [h1]; exact ⟨h2.1, h2.2, fun _ => k.2⟩
  · rw [h1]; exact ⟨by simp, by simp, fun k => absurd rfl k⟩
/-! ### To the end -/
/-- What is read from a text on, behind the points acc. -/
def decI (code : Int) : Nat → ByteArray → List Int → List Int × Bool
  | 0, _, _ => ([], false)
  | f + 1, s, acc => if s.size = 0 then (acc, true) else if (im code s).2 = 0 ∨ acc.length = 300 then ([], false) else decI code f (s.extract (im code s).2.toNat s.size) (acc ++ [(im code s).1])
def goodPts (l : List Int) : Bool := l.all goodB && decide (l.length ≤ 300)
theorem decI_good : ∀ (f : Nat) (code : Int) (s : ByteArray) (acc : List Int), acc.all goodB = true → acc.length ≤ 300 → (decI code f s acc).1.all goodB = true ∧ (decI code f s acc).1.length ≤ 300
  | 0, _, _, _, _, _ => ⟨rfl, Nat.zero_le _⟩
  | f + 1, code, s, acc, h1, h2 => by
    unfold decI
    by_cases z : s.size = 0
    · rw [if_pos z]; exact ⟨h1, h2⟩
    · rw [if_neg z]
      by_cases c : (im code s).2 = 0 ∨ acc.length = 300
      · rw [if_pos c]; exact ⟨rfl, Nat.zero_le _⟩
      · rw [if_neg c]
        refine decI_good f code _ _ ?_ (by rw [List.length_append]; simp; omega)
        rw [List.all_append, h1, Bool.true_and, List.all_cons, List.all_nil, Bool.and_true]
        exact (im_le code s (by omega)).2.2 (by omega)
section
open Pl2Decode
theorem l1In_told (a b c : Int) : spec_l1In.f a b c = some (decide (b ≤ a ∧ a ≤ c)) := by
  unfold spec_l1In.f
  by_cases h : b ≤ a <;> simp [h]
theorem drop_all (l : List Int) (i : Nat) (h : i < l.length) : (l.drop i).all goodB = (goodB l[i] && (l.drop (i + 1)).all goodB) := by
  rw [List.drop_eq_getElem_cons h, List.all_cons]
theorem points_told (l : List Int) (hl : l.length ≤ 35184372088832) : Ev (fun k => spec_l2Points.f k l) (goodPts l) := by
  have key : ∀ (m i : Nat), i + m = l.length → Ev (fun k => spec_l2Points.l0 k l l (l.length : Int) (i : Int)) ((l.drop i).all goodB && decide (l.length ≤ 300)) := by
    intro m
    induction m with
    | zero =>
      intro i hi
      refine Pl.ev_const 1 fun k => ?_
      simp only [spec_l2Points.l0]
      rw [if_neg (by omega), List.drop_of_length_le (by omega)]
      simp
      omega
    | succ m ih =>
      intro i hi
      have hil : i < l.length := by omega
      have hn := ih (i + 1) (by omega)
      have step : ∀ k, spec_l2Points.l0 (k + 1) l l (l.length : Int) (i : Int) = if goodB l[i] = true then spec_l2Points.l0 k l l (l.length : Int) ((i + 1 : Nat) : Int) else some false := by
        intro k
        simp only [spec_l2Points.l0]
        rw [if_pos (by omega), if_pos (by omega), if_pos (by omega), Pl.rd_at l i hil, Pl.w64s i l.length (by omega) (by omega)]
        simp only [l1In_told, Option.bind_some, decide_eq_true_eq]
        unfold goodB
        simp only [decide_eq_true_eq]
        by_cases h1 : 0 ≤ l[i] ∧ l[i] ≤ 1114111
        · by_cases h2 : 55296 ≤ l[i] ∧ l[i] ≤ 57343
          · rw [if_pos h1, if_pos h2, if_neg (by omega)]
          · rw [if_pos h1, if_neg h2, if_pos (by omega)]
        · rw [if_neg h1, if_neg (by omega)]
      by_cases hg : goodB l[i] = true
      · have e : (l.drop i).all goodB = (l.drop (i + 1)).all goodB := by
          rw [drop_all l i hil, hg, Bool.true_and]
        rw [e]
        exact Pl.ev_skip 1 (fun k => by rw [step, if_pos hg]) hn
      · have e : (l.drop i).all goodB = false := by
          rw [drop_all l i hil, Bool.eq_false_iff.2 hg, Bool.false_and]
        rw [e]
        exact Pl.ev_const 1 (fun k => by rw [step, if_neg hg]; rfl)
  have := key l.length 0 (by omega)
  unfold spec_l2Points.f goodPts
  simpa using this
/-- The step of the reference's loop. -/
theorem l0_j2 (code : Int) (hc : 1 ≤ code ∧ code ≤ 3) (s : ByteArray) (h : 0 < s.size) (acc : List Int) (r : List Int × Bool) (hr : (sp code s).2 = 0 → r = ([], false)) (hj : Ev (fun k => spec_l2Decode.j2 k s code acc (sp code s).1 (sp code s).2) r) : Ev (fun k => spec_l2Decode.l0 k s code acc) r := by
  have hw := w0_range s
  have hv := w1_range s
  have e0 : bits .or .i64 (wrap64 (bt s 0)) (wrap64 (wrap64 (bt s 1) * 256)) = w0 s := pair_or _ _ (bt_range s 0) (bt_range s 1)
  have e1 : bits .or .i64 (wrap64 (bt s 2)) (wrap64 (wrap64 (bt s 3) * 256)) = w1 s := pair_or _ _ (bt_range s 2) (bt_range s 3)
  unfold sp at hj hr
  by_cases c1 : code = 1
  · rw [if_pos c1] at hj hr
    have ho := one_told s h
    have := Ev.bind (f := fun k bt120 => spec_l2Decode.j2 k s code acc bt120.1 bt120.2) ho hj
    refine Pl.ev_skip 1 (fun k => ?_) this
    show spec_l2Decode.l0 (k + 1) s code acc = _
    rw [spec_l2Decode.l0, if_pos (by omega), if_pos (by omega), if_pos c1]
  · rw [if_neg c1] at hj hr
    by_cases c2 : code = 2
    · rw [if_pos c2] at hj hr
      unfold s16 at hj hr
      by_cases z : s.size < 2
      · rw [if_pos z] at hr
        rw [hr rfl]
        refine Pl.ev_const 1 fun k => ?_
        show spec_l2Decode.l0 (k + 1) s code acc = _
        rw [spec_l2Decode.l0, if_pos (by omega), if_pos (by omega), if_neg c1, if_pos c2, if_pos (by omega)]
      · rw [if_neg z] at hj
        by_cases c3 : 55296 ≤ w0 s ∧ w0 s ≤ 56319
        · by_cases c4 : 3 < s.size
          · by_cases c5 : 56320 ≤ w1 s ∧ w1 s ≤ 57343
            · rw [if_pos ⟨c3, c4, c5⟩] at hj
              refine Pl.ev_skip 2 (fun k => ?_) hj
              show spec_l2Decode.l0 (k + 1 + 1) s code acc = _
              have a1 : bits .and .i64 (w0 s) 1023 = w0 s % 1024 := Pl.and_mask .i64 10 (by decide) _
              have a2 : bits .and .i64 (w1 s) 1023 = w1 s % 1024 := Pl.and_mask .i64 10 (by decide) _
              rw [spec_l2Decode.l0, if_pos (by omega), if_pos (by omega), if_neg c1, if_pos c2, if_neg (by omega), if_pos (by omega), e0, l1In_told, Option.bind_some, decide_eq_true c3, if_pos rfl, decide_eq_true (by omega)]
              rw [spec_l2Decode.j1, if_pos rfl, if_pos (by omega), if_pos (by omega), e1, l1In_told, Option.bind_some, decide_eq_true c5, if_pos rfl, a1, a2, Pl.w64 (n := w0 s % 1024 * 1024) (by omega) (by omega), or_hi 10 (w0 s % 1024 * 1024) (w1 s % 1024) (by omega) (by omega) (by omega) (by omega) (by omega), Pl.w64 (by omega) (by omega)]
            · rw [if_neg (fun h => c5 h.2.2)] at hj
              refine Pl.ev_skip 2 (fun k => ?_) hj
              show spec_l2Decode.l0 (k + 1 + 1) s code acc = _
              rw [spec_l2Decode.l0, if_pos (by omega), if_pos (by omega), if_neg c1, if_pos c2, if_neg (by omega), if_pos (by omega), e0, l1In_told, Option.bind_some, decide_eq_true c3, if_pos rfl, decide_eq_true (by omega)]
              rw [spec_l2Decode.j1, if_pos rfl, if_pos (by omega), if_pos (by omega), e1, l1In_told, Option.bind_some, decide_eq_false c5, if_neg (by decide)]
          · rw [if_neg (fun h => c4 h.2.1)] at hj
            refine Pl.ev_skip 2 (fun k => ?_) hj
            show spec_l2Decode.l0 (k + 1 + 1) s code acc = _
            rw [spec_l2Decode.l0, if_pos (by omega), if_pos (by omega), if_neg c1, if_pos c2, if_neg (by omega), if_pos (by omega), e0, l1In_told, Option.bind_some, decide_eq_true c3, if_pos rfl, decide_eq_false (by omega)]
            rw [spec_l2Decode.j1, if_neg (by decide)]
        · rw [if_neg (fun h => c3 h.1)] at hj
          refine Pl.ev_skip 2 (fun k => ?_) hj
          show spec_l2Decode.l0 (k + 1 + 1) s code acc = _
          rw [spec_l2Decode.l0, if_pos (by omega), if_pos (by omega), if_neg c1, if_pos c2, if_neg (by omega), if_pos (by omega), e0, l1In_told, Option.bind_some, decide_eq_false c3, if_neg (by decide)]
          rw [spec_l2Decode.j1, if_neg (by decide)]
    · rw [if_neg c2] at hj
      refine Pl.ev_skip 1 (fun k => ?_) hj
      show spec_l2Decode.l0 (k + 1) s code acc = _
      have := bt_range s 0
      rw [spec_l2Decode.l0, if_pos (by omega), if_pos (by omega), if_neg c1, if_neg c2, Pl.w64 (by omega) (by omega)]
/-- The reference's reading, held against the program's. -/
theorem spec_dec (code : Int) (hc : 1 ≤ code ∧ code ≤ 3) : ∀ (f : Nat) (s : ByteArray) (acc : List Int), s.size < f → acc.length ≤ 300 → ∃ r, Ev (fun k => spec_l2Decode.l0 k s code acc) r ∧ r.1.length ≤ 300 ∧ (acc.all goodB = true → r.2 = (decI code f s acc).2 ∧ (r.2 = true → r.1 = (decI code f s acc).1)) ∧ (acc.all goodB = false → r.2 = false)
  | 0, _, _, h, _ => absurd h (Nat.not_lt_zero _)
  | f + 1, s, acc, h, ha => by
    by_cases z : s.size = 0
    · refine ⟨(acc, goodPts acc), ?_, ha, ?_, ?_⟩
      · have := Ev.bind (f := fun (_ : Nat) (t : Bool) => some (acc, t)) (points_told acc (by omega)) (Ev.now _)
        refine Pl.ev_skip 1 (fun k => ?_) this
        show spec_l2Decode.l0 (k + 1) s code acc = _
        rw [spec_l2Decode.l0, if_neg (by omega)]
      · intro hg
        unfold decI goodPts
        rw [if_pos z, hg, decide_eq_true ha]
        exact ⟨rfl, fun _ => rfl⟩
      · intro hg
        unfold goodPts
        simp only
        rw [hg, Bool.false_and]
    · have hz : 0 < s.size := by omega
      have hl := like_all code s hz
      have hs := sp_le code s hz
      by_cases n0 : (sp code s).2 = 0
      · refine ⟨([], false), l0_j2 code hc s hz acc _ (fun _ => rfl) (Pl.ev_const 1 fun k => ?_), Nat.zero_le _, ?_, fun _ => rfl⟩
        · show spec_l2Decode.j2 (k + 1) s code acc _ _ = _
          rw [spec_l2Decode.j2, if_pos n0]
        · intro _
          have e : im code s = (0, 0) := by unfold Like at hl; rwa [if_neg (fun h => h.1 n0)] at hl
          unfold decI
          rw [if_neg z, if_pos (.inl (by rw [e]))]
          exact ⟨rfl, fun h => by cases h⟩
      · by_cases a3 : acc.length = 300
        · refine ⟨([], false), l0_j2 code hc s hz acc _ (fun _ => rfl) (Pl.ev_const 1 fun k => ?_), Nat.zero_le _, ?_, fun _ => rfl⟩
          · show spec_l2Decode.j2 (k + 1) s code acc _ _ = _
            rw [spec_l2Decode.j2, if_neg n0, if_pos (by omega), Option.bind_some, if_pos (by rw [List.length_append]; simp; omega)]
          · intro _
            unfold decI
            rw [if_neg z, if_pos (.inr a3)]
            exact ⟨rfl, fun h => by cases h⟩
        · have hlen : (acc ++ [(sp code s).1]).length ≤ 300 := by rw [List.length_append]; simp; omega
          obtain ⟨r, r1, r2, r3, r4⟩ := spec_dec code hc f (s.extract (sp code s).2.toNat s.size) (acc ++ [(sp code s).1]) (by rw [ByteArray.size_extract]; omega) hlen
          refine ⟨r, l0_j2 code hc s hz acc _ (fun h => absurd h n0) (Pl.ev_skip 1 (fun k => ?_) r1), r2, ?_, ?_⟩
          · show spec_l2Decode.j2 (k + 1) s code acc _ _ = _
            rw [spec_l2Decode.j2, if_neg n0, if_pos (by omega), Option.bind_some, if_neg (by omega), if_pos hs.1, if_pos hs.2]
          · intro hg
            by_cases g : goodB (sp code s).1 = true
            · have e : im code s = sp code s := by unfold Like at hl; rwa [if_pos ⟨n0, g⟩] at hl
              unfold decI
              rw [if_neg z, e, if_neg (by omega)]
              exact r3 (by rw [List.all_append, hg, Bool.true_and, List.all_cons, List.all_nil, Bool.and_true]; exact g)
            · have e : im code s = (0, 0) := by unfold Like at hl; rwa [if_neg (fun h => g h.2)] at hl
              have hb : r.2 = false := r4 (by rw [List.all_append, List.all_cons, Bool.eq_false_iff.2 g]; simp)
              unfold decI
              rw [if_neg z, if_pos (.inl (by rw [e])), hb]
              exact ⟨rfl, fun h => by cases h⟩
          · intro hg
            exact r4 (by rw [List.all_append, hg, Bool.false_and])
/-- What is read of a whole text. -/
def decM (code : Int) (s : ByteArray) : List Int × Bool := decI code (s.size + 1) s []
theorem dec_told (code : Int) (hc : 1 ≤ code ∧ code ≤ 3) (s : ByteArray) : ∃ r1, Ev (fun k => spec_l2Decode.f k s code) (r1, (decM code s).2) ∧ r1.length ≤ 300 ∧ ((decM code s).2 = true → r1 = (decM code s).1) := by
  obtain ⟨r, r1, r2, r3, _⟩ := spec_dec code hc (s.size + 1) s [] (by omega) (Nat.zero_le _)
  obtain ⟨h1, h2⟩ := r3 rfl
  refine ⟨r.1, ?_, r2, ?_⟩
  · have e : (r.1, (decM code s).2) = r := by rw [show (decM code s).2 = r.2 from h1.symm]
    rw [e]
    exact r1
  · intro h
    exact h2 (h1.trans h)
theorem decM_good (code : Int) (s : ByteArray) : (decM code s).1.all goodB = true ∧ (decM code s).1.length ≤ 300 := decI_good _ code s [] rfl (Nat.zero_le _)
theorem decI_no : ∀ (f : Nat) (code : Int) (s : ByteArray) (acc : List Int), (decI code f s acc).2 = false → (decI code f s acc).1 = []
  | 0, _, _, _, _ => rfl
  | f + 1, code, s, acc, h => by
    unfold decI at *
    by_cases z : s.size = 0
    · rw [if_pos z] at h; cases h
    · rw [if_neg z] at h ⊢
      by_cases c : (im code s).2 = 0 ∨ acc.length = 300
      · rw [if_pos c]
      · rw [if_neg c] at h ⊢
        exact decI_no f code _ _ h
theorem decM_no (code : Int) (s : ByteArray) (h : (decM code s).2 = false) : (decM code s).1 = [] := decI_no _ _ _ _ h
end
end Go.Proofs.YtchjmkofdiejhaaDoor.OwnDcQ
