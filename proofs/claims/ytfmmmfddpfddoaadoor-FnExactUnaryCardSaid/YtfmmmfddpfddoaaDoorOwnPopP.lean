/- The ones of a number, counted in parallel: plain laws; no condition of its own. -/
namespace Go.Proofs.YtfmmmfddpfddoaaDoor.OwnPopP
set_option linter.unusedVariables false
set_option linter.unusedSimpArgs false
/-- The ones among the lowest n bits. -/
def popN : Nat → Nat → Nat
  | 0, _ => 0
  | n + 1, x => x % 2 + popN n (x / 2)
/-- The sum of the n lowest digits to the base B. -/
def digs (B : Nat) : Nat → Nat → Nat
  | 0, _ => 0
  | n + 1, x => x % B + digs B n (x / B)
/-- n times the digit d to the base B. -/
def reps (B d : Nat) : Nat → Nat
  | 0 => 0
  | n + 1 => d + B * reps B d n
theorem and_low (k a c m : Nat) (h : c < 2 ^ k) : a &&& (c + 2 ^ k * m) = (a % 2 ^ k &&& c) + 2 ^ k * (a / 2 ^ k &&& m) := by
  have h1 := Nat.div_add_mod (a &&& (c + 2 ^ k * m)) (2 ^ k)
  rw [Nat.and_div_two_pow, Nat.and_mod_two_pow, Nat.add_mul_div_left _ _ (Nat.two_pow_pos k), Nat.add_mul_mod_self_left, Nat.div_eq_of_lt h, Nat.mod_eq_of_lt h, Nat.zero_add] at h1
  omega
def F1 (n x : Nat) : Nat := (x / 2 &&& reps 4 1 n) + (x &&& reps 4 1 n)
theorem F1_succ (n x : Nat) : F1 (n + 1) x = (x / 2 % 2 + x % 2) + 4 * F1 n (x / 4) := by
  unfold F1
  rw [reps]
  have e1 := and_low 2 (x / 2) 1 (reps 4 1 n) (by decide)
  have e2 := and_low 2 x 1 (reps 4 1 n) (by decide)
  rw [show (2 : Nat) ^ 2 = 4 from rfl] at e1 e2
  rw [e1, e2, show x / 2 / 4 = x / 4 / 2 by omega]
  have a1 : x / 2 % 4 &&& 1 = x / 2 % 2 := by have := Nat.and_two_pow_sub_one_eq_mod (x / 2 % 4) 1; rw [show 2 ^ 1 - 1 = 1 from rfl] at this; rw [this]; omega
  have a2 : x % 4 &&& 1 = x % 2 := by have := Nat.and_two_pow_sub_one_eq_mod (x % 4) 1; rw [show 2 ^ 1 - 1 = 1 from rfl] at this; rw [this]; omega
  rw [a1, a2]
  omega
theorem F1_digs : ∀ (n x : Nat), digs 4 n (F1 n x) = popN (2 * n) x
  | 0, x => rfl
  | n + 1, x => by
    rw [F1_succ, digs, show 2 * (n + 1) = 2 * n + 1 + 1 by omega, popN, popN, show x / 2 / 2 = x / 4 by omega, ← F1_digs n (x / 4)]
    have e1 : (x / 2 % 2 + x % 2 + 4 * F1 n (x / 4)) % 4 = x / 2 % 2 + x % 2 := by omega
    have e2 : (x / 2 % 2 + x % 2 + 4 * F1 n (x / 4)) / 4 = F1 n (x / 4) := by omega
    rw [e1, e2]
    omega
def F2 (n x : Nat) : Nat := (x / 4 &&& reps 16 3 n) + (x &&& reps 16 3 n)
theorem F2_succ (n x : Nat) : F2 (n + 1) x = (x / 4 % 4 + x % 4) + 16 * F2 n (x / 16) := by
  unfold F2
  rw [reps]
  have e1 := and_low 4 (x / 4) 3 (reps 16 3 n) (by decide)
  have e2 := and_low 4 x 3 (reps 16 3 n) (by decide)
  rw [show (2 : Nat) ^ 4 = 16 from rfl] at e1 e2
  rw [e1, e2, show x / 4 / 16 = x / 16 / 4 by omega]
  have a1 : x / 4 % 16 &&& 3 = x / 4 % 4 := by have := Nat.and_two_pow_sub_one_eq_mod (x / 4 % 16) 2; rw [show 2 ^ 2 - 1 = 3 from rfl] at this; rw [this]; omega
  have a2 : x % 16 &&& 3 = x % 4 := by have := Nat.and_two_pow_sub_one_eq_mod (x % 16) 2; rw [show 2 ^ 2 - 1 = 3 from rfl] at this; rw [this]; omega
  rw [a1, a2]
  omega
theorem F2_digs : ∀ (n x : Nat), digs 16 n (F2 n x) = digs 4 (2 * n) x
  | 0, x => rfl
  | n + 1, x => by
    rw [F2_succ, digs, show 2 * (n + 1) = 2 * n + 1 + 1 by omega, digs, digs, show x / 4 / 4 = x / 16 by omega, ← F2_digs n (x / 16)]
    have e1 : (x / 4 % 4 + x % 4 + 16 * F2 n (x / 16)) % 16 = x / 4 % 4 + x % 4 := by omega
    have e2 : (x / 4 % 4 + x % 4 + 16 * F2 n (x / 16)) / 16 = F2 n (x / 16) := by omega
    rw [e1, e2]
    omega
def low6 : Nat → Nat → Prop
  | 0, x => x = 0
  | n + 1, x => x % 16 ≤ 6 ∧ low6 n (x / 16)
theorem F2_low6 : ∀ (n x : Nat), low6 n (F2 n x)
  | 0, x => by simp [low6, F2, reps]
  | n + 1, x => by
    rw [F2_succ]
    have e2 : (x / 4 % 4 + x % 4 + 16 * F2 n (x / 16)) / 16 = F2 n (x / 16) := by omega
    refine ⟨by omega, ?_⟩
    rw [e2]
    exact F2_low6 n (x / 16)
theorem add16 (x : Nat) (g0 : x % 16 ≤ 6) (g1 : x / 16 % 16 ≤ 6) (g2 : x / 16 / 16 % 16 ≤ 6) : (x / 16 + x) / 256 = x / 256 / 16 + x / 256 := by
  obtain ⟨q, hq⟩ : ∃ q, q = x % 16 := ⟨_, rfl⟩
  obtain ⟨p, hp⟩ : ∃ p, p = x / 16 % 16 := ⟨_, rfl⟩
  obtain ⟨d, hd⟩ : ∃ d, d = x / 16 / 16 % 16 := ⟨_, rfl⟩
  obtain ⟨Z, hZ⟩ : ∃ Z, Z = x / 16 / 16 / 16 := ⟨_, rfl⟩
  rw [← hq] at g0; rw [← hp] at g1; rw [← hd] at g2
  have e1 : x / 16 / 16 = 16 * Z + d := by omega
  have e2 : x / 16 = 256 * Z + 16 * d + p := by omega
  have e3 : x = 4096 * Z + 256 * d + 16 * p + q := by omega
  rw [e2, e3]
  clear hq hp hd hZ e1 e2 e3
  have f1 : (4096 * Z + 256 * d + 16 * p + q) / 256 = 16 * Z + d := by omega
  have f2 : (16 * Z + d) / 16 = Z := by omega
  have f3 : (256 * Z + 16 * d + p + (4096 * Z + 256 * d + 16 * p + q)) / 256 = 17 * Z + d := by omega
  rw [f1, f2, f3]
  omega
def F3 (n x : Nat) : Nat := (x / 16 + x) &&& reps 256 15 n
theorem low6_top {n x : Nat} (h : low6 n x) : x % 16 ≤ 6 := by
  cases n with
  | zero => have : x = 0 := h; omega
  | succ n => exact h.1
theorem F3_digs : ∀ (n x : Nat), low6 (2 * n) x → digs 256 n (F3 n x) = digs 16 (2 * n) x ∧ ∀ j, F3 n x / 256 ^ j % 256 ≤ 12
  | 0, x, _ => ⟨rfl, fun j => by unfold F3 reps; simp⟩
  | n + 1, x, h => by
    have h' : low6 (2 * n + 2) x := h
    have e0 : F3 (n + 1) x = (x / 16 % 16 + x % 16) + 256 * F3 n (x / 256) := by
      cases n with
      | zero =>
        unfold F3
        rw [show reps 256 15 (0 + 1) = 2 ^ 4 - 1 from rfl, Nat.and_two_pow_sub_one_eq_mod]
        obtain ⟨g0, g1, g2⟩ := h'
        have : x / 16 / 16 = 0 := g2
        rw [show reps 256 15 0 = 0 from rfl, Nat.and_zero]
        omega
      | succ n =>
        unfold F3
        rw [reps]
        have e1 := and_low 8 (x / 16 + x) 15 (reps 256 15 (n + 1)) (by decide)
        rw [show (2 : Nat) ^ 8 = 256 from rfl] at e1
        obtain ⟨g0, g1, g2⟩ := h'
        have g3 := low6_top g2
        have a1 : (x / 16 + x) % 256 &&& 15 = x / 16 % 16 + x % 16 := by have := Nat.and_two_pow_sub_one_eq_mod ((x / 16 + x) % 256) 4; rw [show 2 ^ 4 - 1 = 15 from rfl] at this; rw [this]; omega
        have a2 : (x / 16 + x) / 256 = x / 256 / 16 + x / 256 := add16 x g0 g1 g3
        rw [e1, a1, a2]
    obtain ⟨g0, g1, g2⟩ := h'
    have g2' : low6 (2 * n) (x / 256) := by rw [show x / 256 = x / 16 / 16 by omega]; exact g2
    obtain ⟨k1, k2⟩ := F3_digs n (x / 256) g2'
    have e1 : (x / 16 % 16 + x % 16 + 256 * F3 n (x / 256)) % 256 = x / 16 % 16 + x % 16 := by omega
    have e2 : (x / 16 % 16 + x % 16 + 256 * F3 n (x / 256)) / 256 = F3 n (x / 256) := by omega
    rw [e0]
    refine ⟨?_, fun j => ?_⟩
    · rw [digs, e1, e2, k1, show 2 * (n + 1) = 2 * n + 1 + 1 by omega, digs, digs, show x / 16 / 16 = x / 256 by omega]
      omega
    · cases j with
      | zero => rw [Nat.pow_zero, Nat.div_one, e1]; omega
      | succ j => rw [Nat.pow_succ', ← Nat.div_div_eq_div_mul, e2]; exact k2 j
/-- Eight small bytes are added up. -/
theorem sum8 (x : Nat) (hx : x < 18446744073709551616) (h : ∀ j, x / 256 ^ j % 256 ≤ 12) : x + x / 256 < 18446744073709551616 ∧ (x + x / 256) + (x + x / 256) / 65536 < 18446744073709551616 ∧ ((x + x / 256) + (x + x / 256) / 65536) + ((x + x / 256) + (x + x / 256) / 65536) / 4294967296 < 18446744073709551616 ∧ (((x + x / 256) + (x + x / 256) / 65536) + ((x + x / 256) + (x + x / 256) / 65536) / 4294967296) % 128 = digs 256 8 x := by
  obtain ⟨c0, e0⟩ : ∃ c, c = x % 256 := ⟨_, rfl⟩
  obtain ⟨x1, y1⟩ : ∃ c, c = x / 256 := ⟨_, rfl⟩
  obtain ⟨c1, e1⟩ : ∃ c, c = x1 % 256 := ⟨_, rfl⟩
  obtain ⟨x2, y2⟩ : ∃ c, c = x1 / 256 := ⟨_, rfl⟩
  obtain ⟨c2, e2⟩ : ∃ c, c = x2 % 256 := ⟨_, rfl⟩
  obtain ⟨x3, y3⟩ : ∃ c, c = x2 / 256 := ⟨_, rfl⟩
  obtain ⟨c3, e3⟩ : ∃ c, c = x3 % 256 := ⟨_, rfl⟩
  obtain ⟨x4, y4⟩ : ∃ c, c = x3 / 256 := ⟨_, rfl⟩
  obtain ⟨c4, e4⟩ : ∃ c, c = x4 % 256 := ⟨_, rfl⟩
  obtain ⟨x5, y5⟩ : ∃ c, c = x4 / 256 := ⟨_, rfl⟩
  obtain ⟨c5, e5⟩ : ∃ c, c = x5 % 256 := ⟨_, rfl⟩
  obtain ⟨x6, y6⟩ : ∃ c, c = x5 / 256 := ⟨_, rfl⟩
  obtain ⟨c6, e6⟩ : ∃ c, c = x6 % 256 := ⟨_, rfl⟩
  obtain ⟨x7, y7⟩ : ∃ c, c = x6 / 256 := ⟨_, rfl⟩
  obtain ⟨c7, e7⟩ : ∃ c, c = x7 % 256 := ⟨_, rfl⟩
  have hd : digs 256 8 x = c0 + c1 + c2 + c3 + c4 + c5 + c6 + c7 := by
    simp only [digs]
    rw [← e0, ← y1, ← e1, ← y2, ← e2, ← y3, ← e3, ← y4, ← e4, ← y5, ← e5, ← y6, ← e6, ← y7, ← e7]
    omega
  have h0 := h 0; have h1 := h 1; have h2 := h 2; have h3 := h 3; have h4 := h 4; have h5 := h 5; have h6 := h 6; have h7 := h 7
  simp only [Nat.pow_succ', Nat.pow_zero, Nat.mul_one, ← Nat.div_div_eq_div_mul, Nat.div_one] at h0 h1 h2 h3 h4 h5 h6 h7
  rw [← e0] at h0
  rw [← y1, ← e1] at h1
  rw [← y1, ← y2, ← e2] at h2
  rw [← y1, ← y2, ← y3, ← e3] at h3
  rw [← y1, ← y2, ← y3, ← y4, ← e4] at h4
  rw [← y1, ← y2, ← y3, ← y4, ← y5, ← e5] at h5
  rw [← y1, ← y2, ← y3, ← y4, ← y5, ← y6, ← e6] at h6
  rw [← y1, ← y2, ← y3, ← y4, ← y5, ← y6, ← y7, ← e7] at h7
  clear h
  have z0 : x = c0 + 256 * x1 := by omega
  have z1 : x1 = c1 + 256 * x2 := by omega
  have z2 : x2 = c2 + 256 * x3 := by omega
  have z3 : x3 = c3 + 256 * x4 := by omega
  have z4 : x4 = c4 + 256 * x5 := by omega
  have z5 : x5 = c5 + 256 * x6 := by omega
  have z6 : x6 = c6 + 256 * x7 := by omega
  have z7 : x7 < 256 := by clear e0 e1 e2 e3 e4 e5 e6 e7 y1 y2 y3 y4 y5 y6 y7; omega
  have z7' : x7 = c7 := by omega
  rw [hd, ← y1]
  clear hd e0 e1 e2 e3 e4 e5 e6 e7 y1 y2 y3 y4 y5 y6 y7 z7 hx
  subst z7'
  obtain ⟨A, hA⟩ : ∃ A, A = x + x1 := ⟨_, rfl⟩
  rw [← hA]
  have gA : A / 65536 = x2 + x3 := by
    have : A = 65536 * (x2 + x3) + (c0 + c1 + 256 * (c1 + c2)) := by omega
    rw [this]
    omega
  rw [gA]
  obtain ⟨B, hB⟩ : ∃ B, B = A + (x2 + x3) := ⟨_, rfl⟩
  rw [← hB]
  have gB : B / 4294967296 = x4 + x5 + x6 + x7 := by
    have : B = 4294967296 * (x4 + x5 + x6 + x7) + (c0 + c1 + c2 + c3 + 256 * (c1 + c2 + c3 + c4) + 65536 * (c2 + c3 + c4 + c5) + 16777216 * (c3 + c4 + c5 + c6)) := by omega
    rw [this]
    clear this gA hA hB z0 z1 z2 z3 z4 z5 z6
    omega
  rw [gB]
  refine ⟨?_, ?_, ?_, ?_⟩
  · omega
  · omega
  · omega
  · have e : B + (x4 + x5 + x6 + x7) = (c0 + c1 + c2 + c3 + c4 + c5 + c6 + x7) + 128 * (2 * (x1 + x2 + x3 + x4 + x5 + x6 + x7)) := by clear gA gB; omega
    generalize B + (x4 + x5 + x6 + x7) = T at *
    clear gA gB hA hB z0 z1 z2 z3 z4 z5 z6
    generalize x1 + x2 + x3 + x4 + x5 + x6 + x7 = V at *
    omega
/-- All at once. -/
theorem pop_all (x : Nat) (hx : x < 18446744073709551616) : let y := F3 8 (F2 16 (F1 32 x)); y + y / 256 < 18446744073709551616 ∧ (y + y / 256) + (y + y / 256) / 65536 < 18446744073709551616 ∧ ((y + y / 256) + (y + y / 256) / 65536) + ((y + y / 256) + (y + y / 256) / 65536) / 4294967296 < 18446744073709551616 ∧ (((y + y / 256) + (y + y / 256) / 65536) + ((y + y / 256) + (y + y / 256) / 65536) / 4294967296) % 128 = popN 64 x := by
  intro y
  have hl : low6 16 (F2 16 (F1 32 x)) := F2_low6 16 _
  obtain ⟨h1, h2⟩ := F3_digs 8 (F2 16 (F1 32 x)) hl
  have hy : y < 18446744073709551616 := by
    have : y ≤ reps 256 15 8 := Nat.and_le_right
    have e : reps 256 15 8 = 1085102592571150095 := rfl
    omega
  obtain ⟨k1, k2, k3, k4⟩ := sum8 y hy h2
  refine ⟨k1, k2, k3, ?_⟩
  rw [k4, show digs 256 8 y = _ from h1, F2_digs 16, F1_digs 32]
theorem F1_lt (x : Nat) (hx : x < 18446744073709551616) : F1 32 x < 18446744073709551616 := by
  unfold F1
  have h1 : x / 2 &&& reps 4 1 32 ≤ reps 4 1 32 := Nat.and_le_right
  have h2 : x &&& reps 4 1 32 ≤ reps 4 1 32 := Nat.and_le_right
  have e : reps 4 1 32 = 6148914691236517205 := rfl
  omega
theorem F2_lt (x : Nat) : F2 16 x < 18446744073709551616 := by
  unfold F2
  have h1 : x / 4 &&& reps 16 3 16 ≤ reps 16 3 16 := Nat.and_le_right
  have h2 : x &&& reps 16 3 16 ≤ reps 16 3 16 := Nat.and_le_right
  have e : reps 16 3 16 = 3689348814741910323 := rfl
  omega
end Go.Proofs.YtfmmmfddpfddoaaDoor.OwnPopP
