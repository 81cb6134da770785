/- Division of two words by one, digit by digit: plain laws; no condition of its own. -/
namespace Go.Proofs.Ythpmpjejjbhkjaa.OwnDivP
set_option linter.unusedVariables false
/-- One digit of Knuth's division. -/
theorem kn_test (b Y n1 n0 u u1 q r : Nat) (hY : Y = n1 * b + n0) (hq : q * n1 + r = u) : q * n0 > b * r + u1 ↔ u * b + u1 < q * Y := by
  subst hY hq
  have e1 : (q * n1 + r) * b = q * (n1 * b) + b * r := by rw [Nat.add_mul, Nat.mul_assoc, Nat.mul_comm r b]
  have e2 : q * (n1 * b + n0) = q * (n1 * b) + q * n0 := Nat.mul_add ..
  rw [e1, e2]
  omega
theorem kn_top (b Y u u1 : Nat) (hu : u < Y) (hu1 : u1 < b) : (u * b + u1) / Y < b := by
  rw [Nat.div_lt_iff_lt_mul (by omega)]
  have : (u + 1) * b ≤ Y * b := Nat.mul_le_mul_right b hu
  rw [Nat.add_mul, Nat.mul_comm b Y] at *
  omega
theorem kn_first (b Y n1 n0 u u1 : Nat) (hY : Y = n1 * b + n0) (hn1 : 0 < n1) (hu1 : u1 < b) : (u * b + u1) / Y ≤ u / n1 := by
  rw [Nat.le_div_iff_mul_le hn1]
  have hb : 0 < b := by omega
  have h := Nat.div_mul_le_self (u * b + u1) Y
  generalize (u * b + u1) / Y = Q at *
  have h2 : Q * (n1 * b) ≤ Q * Y := Nat.mul_le_mul_left Q (by omega)
  rw [← Nat.mul_assoc] at h2
  have h3 : Q * n1 * b < (u + 1) * b := by rw [Nat.add_mul]; omega
  have := Nat.lt_of_mul_lt_mul_right h3
  omega
theorem kn_small (b Y n1 n0 u : Nat) (hY : Y = n1 * b + n0) (hn0 : n0 < b) (hn1 : b ≤ 2 * n1) (h0 : 0 < n1) (hu : u < Y) : u / n1 ≤ b + 1 := by
  have : u / n1 < b + 2 := by
    rw [Nat.div_lt_iff_lt_mul h0, Nat.add_mul]
    have : n1 * b = b * n1 := Nat.mul_comm ..
    omega
  omega
/-- The digit is found. -/
theorem kn_stop (b Y n1 n0 u u1 q r : Nat) (hY : Y = n1 * b + n0) (hY0 : 0 < Y) (hq : q * n1 + r = u) (hQ : (u * b + u1) / Y ≤ q) (h : ¬ q * n0 > b * r + u1) : q = (u * b + u1) / Y := by
  rw [kn_test b Y n1 n0 u u1 q r hY hq] at h
  have : q ≤ (u * b + u1) / Y := by rw [Nat.le_div_iff_mul_le hY0]; omega
  omega
theorem kn_over (b Y n1 n0 u u1 q r : Nat) (hY : Y = n1 * b + n0) (hY0 : 0 < Y) (hn0 : n0 < b) (hq : q * n1 + r = u) (hQ : (u * b + u1) / Y ≤ q) (hqb : q ≤ b) (hr : b ≤ r) : q = (u * b + u1) / Y := by
  refine kn_stop b Y n1 n0 u u1 q r hY hY0 hq hQ ?_
  have h1 : q * n0 ≤ b * n0 := Nat.mul_le_mul_right _ hqb
  have h2 : b * n0 ≤ b * r := Nat.mul_le_mul_left _ (by omega)
  omega
/-- What goes on is too great. -/
theorem kn_more (b Y n1 n0 u u1 q r : Nat) (hY : Y = n1 * b + n0) (hY0 : 0 < Y) (hu : u < Y) (hu1 : u1 < b) (hq : q * n1 + r = u) (h : b ≤ q ∨ q * n0 > b * r + u1) : (u * b + u1) / Y < q := by
  rcases h with h | h
  · have := kn_top b Y u u1 hu hu1; omega
  · rw [kn_test b Y n1 n0 u u1 q r hY hq] at h
    rw [Nat.div_lt_iff_lt_mul hY0]
    omega
/-- Two digits make the quotient. -/
theorem kn_two (b Y U u1 u0 : Nat) (hY0 : 0 < Y) (h0 : u0 < b) (h1 : u1 < b) : let N := U * b + u1; let R := N - N / Y * Y; N / Y * b + (R * b + u0) / Y = (U * (b * b) + (u1 * b + u0)) / Y ∧ (R * b + u0) - (R * b + u0) / Y * Y = (U * (b * b) + (u1 * b + u0)) % Y := by
  intro N R
  have hR : R = N % Y := by show N - N / Y * Y = N % Y; have := Nat.div_add_mod N Y; rw [Nat.mul_comm] at this; omega
  have hN : N = N / Y * Y + R := by have := Nat.div_add_mod N Y; rw [Nat.mul_comm] at this; omega
  have e : U * (b * b) + (u1 * b + u0) = (N / Y * b) * Y + (R * b + u0) := by
    have : U * (b * b) + (u1 * b + u0) = N * b + u0 := by show _ = (U * b + u1) * b + u0; rw [Nat.add_mul, Nat.mul_assoc]; omega
    rw [this]
    generalize N / Y = Q at *
    have : N * b = Q * b * Y + R * b := by rw [hN, Nat.add_mul, Nat.mul_right_comm]
    omega
  rw [e]
  refine ⟨?_, ?_⟩
  · rw [Nat.add_comm (N / Y * b * Y), Nat.add_mul_div_right _ _ hY0, Nat.add_comm]
  · rw [Nat.add_comm (N / Y * b * Y), Nat.add_mul_mod_self_right]
    have := Nat.div_add_mod (R * b + u0) Y; rw [Nat.mul_comm] at this; omega
theorem sh_top (lo s : Nat) (hs : s ≤ 64) : lo * 2 ^ s / 2 ^ 64 = lo / 2 ^ (64 - s) := by
  have : (2 : Nat) ^ 64 = 2 ^ (64 - s) * 2 ^ s := by rw [← Nat.pow_add]; congr 1; omega
  rw [this, Nat.mul_div_mul_right _ _ (Nat.two_pow_pos s)]
/-- A number in two words, moved to the left. -/
theorem sh_two (hi lo s : Nat) (hs : s ≤ 64) : (hi * 2 ^ s + lo / 2 ^ (64 - s)) * 2 ^ 64 + lo * 2 ^ s % 2 ^ 64 = (hi * 2 ^ 64 + lo) * 2 ^ s := by
  have h := Nat.div_add_mod (lo * 2 ^ s) (2 ^ 64)
  rw [sh_top lo s hs] at h
  rw [Nat.add_mul, Nat.add_mul, Nat.mul_right_comm, Nat.add_assoc]
  rw [Nat.mul_comm (2 ^ 64)] at h
  rw [h]
theorem sh_less (hi lo y s : Nat) (hs : s ≤ 64) (hlo : lo < 2 ^ 64) (h : hi < y) : hi * 2 ^ s + lo / 2 ^ (64 - s) < y * 2 ^ s := by
  have h1 : (hi + 1) * 2 ^ s ≤ y * 2 ^ s := Nat.mul_le_mul_right _ h
  have h2 : lo / 2 ^ (64 - s) < 2 ^ s := by
    rw [Nat.div_lt_iff_lt_mul (Nat.two_pow_pos _), ← Nat.pow_add]
    rw [show s + (64 - s) = 64 by omega]; exact hlo
  rw [Nat.add_mul] at h1
  omega
theorem sh_div (N y s : Nat) : N * 2 ^ s / (y * 2 ^ s) = N / y ∧ N * 2 ^ s % (y * 2 ^ s) / 2 ^ s = N % y := by
  refine ⟨Nat.mul_div_mul_right _ _ (Nat.two_pow_pos s), ?_⟩
  rw [Nat.mul_mod_mul_right, Nat.mul_div_cancel _ (Nat.two_pow_pos s)]
/-- One bit of the plain division. -/
theorem bit_step (T d bit : Nat) (hd : 0 < d) (hb : bit < 2) : (2 * T + bit) / d = 2 * (T / d) + (if 2 * (T % d) + bit < d then 0 else 1) ∧ (2 * T + bit) % d = (if 2 * (T % d) + bit < d then 2 * (T % d) + bit else 2 * (T % d) + bit - d) := by
  have h := Nat.div_add_mod T d
  have hlt := Nat.mod_lt T hd
  generalize T / d = Q at *
  generalize T % d = R at *
  have e : 2 * T + bit = 2 * R + bit + d * (2 * Q) := by rw [← h, Nat.mul_left_comm]; omega
  rw [e, Nat.add_mul_div_left _ _ hd, Nat.add_mul_mod_self_left]
  split
  · rename_i k
    rw [Nat.div_eq_of_lt k, Nat.mod_eq_of_lt k]; omega
  · rename_i k
    have e2 : 2 * R + bit = (2 * R + bit - d) + d := by omega
    generalize 2 * R + bit - d = Z at *
    rw [e2, Nat.add_div_right _ hd, Nat.add_mod_right, Nat.div_eq_of_lt (by omega), Nat.mod_eq_of_lt (by omega)]; omega
end Go.Proofs.Ythpmpjejjbhkjaa.OwnDivP
