/- FOfInt: rounding after a shift with the rest remembered: the plain law; no condition of its own. -/
import Derived.Test.YtfmmmfddpfddoaaOwnRfL
namespace Go.Proofs.Ytfmmmfddpfddoaa.OwnFoP
open Go Go.RowKit Go.Proofs.YtfmmmfddpfddoaaW.PrintWords Go.Proofs.YtfmmmfddpfddoaaW.PrintLast Go.Proofs.YtfmmmfddpfddoaaW.PrintMore Go.Proofs.Ytfmmmfddpfddoaa.OwnRnd Go.Proofs.Ytfmmmfddpfddoaa.OwnRfL
set_option linter.unusedVariables false
set_option linter.unusedSimpArgs false
/-- What j halvings leave. -/
def OK (m0 M j : Nat) (b : Bool) : Prop := M = m0 / 2 ^ j ∧ b = decide (m0 % 2 ^ j ≠ 0) ∧ j ≤ 4 ∧ (j = 0 ∨ 1152921504606846976 ≤ m0)
theorem ok_zero (m0 : Nat) : OK m0 m0 0 false := ⟨by simp, by simp [Nat.mod_one], by omega, .inl rfl⟩
theorem ok_four (m0 : Nat) (h : 1152921504606846976 ≤ m0) : OK m0 (m0 / 16) 4 (decide (m0 % 16 ≠ 0)) := ⟨rfl, rfl, by omega, .inr h⟩
theorem ok_next (m0 M j : Nat) (b : Bool) (h : OK m0 M j b) (h63 : m0 ≤ 9223372036854775808) (hM : 1152921504606846976 ≤ M) : j < 4 ∧ OK m0 (M / 2) (j + 1) (b || decide (M % 2 = 1)) := by
  obtain ⟨h1, h2, h3, h4⟩ := h
  have h5 : M ≤ m0 := by rw [h1]; exact Nat.div_le_self _ _
  have hj : j < 4 := by
    rcases Nat.lt_or_ge j 4 with h | h
    · exact h
    · obtain rfl : j = 4 := by omega
      rw [show (2 : Nat) ^ 4 = 16 from rfl] at h1
      omega
  refine ⟨hj, by rw [h1, Nat.pow_succ, Nat.div_div_eq_div_mul], ?_, by omega, .inr (by omega)⟩
  have hm : m0 % 2 ^ (j + 1) = m0 % 2 ^ j + 2 ^ j * (m0 / 2 ^ j % 2) := Nat.mod_pow_succ
  rw [h2, hm, ← h1]
  have hp : 0 < 2 ^ j := Nat.two_pow_pos j
  rcases Nat.mod_two_eq_zero_or_one M with h | h
  · rw [h]; simp
  · rw [h]; simp
theorem len_shift : ∀ (j m : Nat), m < 2 ^ 64 → 2 ^ j ≤ m → Lib.bitLen (m / 2 ^ j) + j = Lib.bitLen m
  | 0, m, h, h1 => by simp
  | j + 1, m, h, h1 => by
    have hp : 2 ^ j ≤ m := Nat.le_trans (Nat.pow_le_pow_right (by decide) (by omega)) h1
    have ih := len_shift j m h hp
    have h2 : m / 2 ^ j ≠ 0 := by
      have : 0 < m / 2 ^ j := Nat.div_pos hp (Nat.two_pow_pos _)
      omega
    have h3 := Lib.bitLen_half (m / 2 ^ j) h2 (Nat.lt_of_le_of_lt (Nat.div_le_self _ _) h)
    have e : m / 2 ^ (j + 1) = m / 2 ^ j / 2 := by rw [Nat.pow_succ, Nat.div_div_eq_div_mul]
    rw [e]
    rw [h3] at ih
    omega
theorem up_same (m j s : Nat) (hs : 1 ≤ s) : rUp ((m / 2 ^ j : Nat) : Int) s (decide (m % 2 ^ j ≠ 0)) = rUp (m : Int) (s + j) false := by
  have hpj : 0 < 2 ^ j := Nat.two_pow_pos j
  have eX : m % 2 ^ (s + j) = 2 ^ j * (m / 2 ^ j % 2 ^ s) + m % 2 ^ j := by
    rw [Nat.add_comm s j, Nat.pow_add, Nat.mod_mul, Nat.add_comm]
  have eQ : m / 2 ^ (s + j) = m / 2 ^ j / 2 ^ s := by rw [Nat.add_comm s j, Nat.pow_add, Nat.div_div_eq_div_mul]
  have eH : 2 ^ (s + j - 1) = 2 ^ j * 2 ^ (s - 1) := by rw [← Nat.pow_add]; congr 1; omega
  have hB := Nat.mod_lt m hpj
  unfold rUp
  simp only [← pow_nat, ← Int.natCast_emod, ← Int.natCast_ediv, Int.ofNat_lt, Int.natCast_inj]
  rw [eX, eQ, eH]
  generalize m / 2 ^ j / 2 ^ s = Q
  generalize m / 2 ^ j % 2 ^ s = A
  generalize m % 2 ^ j = B at *
  generalize 2 ^ (s - 1) = h
  generalize 2 ^ j = p at *
  have k1 : (p * h < p * A + B) ↔ (h < A ∨ (A = h ∧ B ≠ 0)) := by
    constructor
    · intro t
      rcases Nat.lt_trichotomy A h with c | c | c
      · have : p * (A + 1) ≤ p * h := Nat.mul_le_mul_left p c
        rw [Nat.mul_add] at this; omega
      · subst c; exact .inr ⟨rfl, by omega⟩
      · exact .inl c
    · rintro (c | ⟨rfl, c⟩)
      · have : p * (h + 1) ≤ p * A := Nat.mul_le_mul_left p c
        rw [Nat.mul_add] at this; omega
      · omega
  have k2 : (p * A + B = p * h) ↔ (A = h ∧ B = 0) := by
    constructor
    · intro t
      have : A = h := by
        rcases Nat.lt_trichotomy A h with c | c | c
        · have : p * (A + 1) ≤ p * h := Nat.mul_le_mul_left p c
          rw [Nat.mul_add] at this; omega
        · exact c
        · have : p * (h + 1) ≤ p * A := Nat.mul_le_mul_left p c
          rw [Nat.mul_add] at this; omega
      subst this; exact ⟨rfl, by omega⟩
    · rintro ⟨rfl, rfl⟩; rfl
  have d1 : decide (p * h < p * A + B) = decide (h < A ∨ (A = h ∧ B ≠ 0)) := decide_eq_decide.2 k1
  have d2 : decide (p * A + B = p * h) = decide (A = h ∧ B = 0) := decide_eq_decide.2 k2
  rw [d1, d2]
  by_cases c1 : h < A
  · simp [c1]
  · by_cases c2 : A = h
    · by_cases c3 : B = 0 <;> simp [c2, c3]
    · simp [c1, c2]
theorem rK_same (m j : Nat) (low : Int) (hj : j < low) (hl : low < 64) : rK ((m / 2 ^ j : Nat) : Int) (low - j) (decide (m % 2 ^ j ≠ 0)) = rK (m : Int) low false := by
  obtain ⟨s, hs⟩ : ∃ s : Nat, low - j = s := ⟨(low - j).toNat, by omega⟩
  have hlow : low = ((s + j : Nat) : Int) := by omega
  rw [hs, hlow]
  unfold rK
  rw [if_neg (show ¬ ((s : Int) ≤ 0) by omega), if_pos (show (s : Int) < 64 by omega), if_neg (show ¬ (((s + j : Nat) : Int) ≤ 0) by omega), if_pos (show ((s + j : Nat) : Int) < 64 by omega), Int.toNat_natCast, Int.toNat_natCast, up_same m j s (by omega)]
  congr 1
  rw [← pow_nat, ← pow_nat, ← Int.natCast_ediv, ← Int.natCast_ediv, Nat.div_div_eq_div_mul, ← Nat.pow_add, Nat.add_comm s j]
theorem low_same (p least : Int) (L L' : Nat) (j : Nat) (h : L' + j = L) : rLow p least L' j = rLow p least L 0 := by
  unfold rLow
  have e : (j : Int) + L' - p - 1 = 0 + L - p - 1 := by omega
  rw [e]
theorem both (p least : Int) (m0 M j : Nat) (b : Bool) (h : OK m0 M j b) (h63 : m0 ≤ 9223372036854775808) (h0 : m0 ≠ 0) (hp : 4 < 60 - p) (hp2 : 0 ≤ p) (hl : least < 0) : M ≠ 0 ∧ rLow p least (Lib.bitLen M) j = rLow p least (Lib.bitLen m0) 0 ∧ rK M (rLow p least (Lib.bitLen M) j - j) b = rK m0 (rLow p least (Lib.bitLen m0) 0 - 0) false := by
  obtain ⟨h1, h2, h3, h4⟩ := h
  rcases h4 with rfl | h4
  · obtain rfl : M = m0 := by rw [h1]; simp
    obtain rfl : b = false := by rw [h2]; simp [Nat.mod_one]
    exact ⟨h0, rfl, rfl⟩
  · have p64 : (2 : Nat) ^ 64 = 18446744073709551616 := by decide
    have hpj : 2 ^ j ≤ 2 ^ 4 := Nat.pow_le_pow_right (by decide) h3
    rw [show (2 : Nat) ^ 4 = 16 from rfl] at hpj
    have hlen := len_shift j m0 (by omega) (by omega)
    rw [← h1] at hlen
    have hb := Lib.bitLenAux_bounds 64 m0 (by omega) h0
    have hL64 : Lib.bitLen m0 ≤ 64 := Lib.bitLen_le m0 64 (by omega) (by omega)
    have hL : 61 ≤ Lib.bitLen m0 := by
      rcases Nat.lt_or_ge (Lib.bitLen m0) 61 with c | c
      · have h5 : 2 ^ Lib.bitLen m0 ≤ 2 ^ 60 := Nat.pow_le_pow_right (by decide) (by omega)
        rw [show (2 : Nat) ^ 60 = 1152921504606846976 by decide] at h5
        have h6 : m0 < 2 ^ Lib.bitLen m0 := hb.2.2
        omega
      · exact c
    have e1 := low_same p least (Lib.bitLen m0) (Lib.bitLen M) j hlen
    refine ⟨?_, e1, ?_⟩
    · rw [h1]; have : 0 < m0 / 2 ^ j := Nat.div_pos (by omega) (Nat.two_pow_pos _); omega
    · rw [e1, Int.sub_zero, h1, h2]
      have e2 : rLow p least (Lib.bitLen m0) 0 = Lib.bitLen m0 - p - 1 := by
        unfold rLow; rw [if_neg (by omega)]; omega
      exact rK_same m0 j _ (by rw [e2]; omega) (by rw [e2]; omega)
theorem same16 (neg : Bool) (m0 M j : Nat) (b : Bool) (h : OK m0 M j b) (h63 : m0 ≤ 9223372036854775808) : rnd16 neg M j b = rnd16 neg m0 0 false := by
  by_cases h0 : m0 = 0
  · subst h0
    have : M = 0 := by rw [h.1]; simp
    subst this; rfl
  · obtain ⟨a, e1, e2⟩ := both 10 (-24) m0 M j b h h63 h0 (by decide) (by decide) (by decide)
    unfold rnd16
    rw [if_neg a, if_neg h0, e2, e1]
theorem same32 (neg : Bool) (m0 M j : Nat) (b : Bool) (h : OK m0 M j b) (h63 : m0 ≤ 9223372036854775808) : rnd32 neg M j b = rnd32 neg m0 0 false := by
  by_cases h0 : m0 = 0
  · subst h0
    have : M = 0 := by rw [h.1]; simp
    subst this; rfl
  · obtain ⟨a, e1, e2⟩ := both 23 (-149) m0 M j b h h63 h0 (by decide) (by decide) (by decide)
    unfold rnd32
    rw [if_neg a, if_neg h0, e2, e1]
end Go.Proofs.Ytfmmmfddpfddoaa.OwnFoP
