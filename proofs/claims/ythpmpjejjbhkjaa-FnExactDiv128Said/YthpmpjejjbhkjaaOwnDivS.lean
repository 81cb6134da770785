/- Division of two words by one, bit by bit: the reference, plain; no condition of its own. -/
import Derived.Test.YthpmpjejjbhkjaaPlainA
import Derived.Test.YthpmpjejjbhkjaaOwnDivP
import Derived.Test.YthpmpjejjbhkjaaPDiv128x1
namespace Go.Proofs.Ythpmpjejjbhkjaa.OwnDivS
open Go Go.RowKit Go.Proofs.YthpmpjejjbhkjaaW.PrintWords Go.Proofs.YthpmpjejjbhkjaaW.PrintLast Go.Proofs.YthpmpjejjbhkjaaW.PrintMore Go.Proofs.Ythpmpjejjbhkjaa.OwnDivP
set_option linter.unusedVariables false
set_option linter.unusedSimpArgs false
open PDiv128
theorem or_bit (a b : Nat) (ha : a < 18446744073709551616) (hb : b < 2) : bits .or .u64 (IntKind.u64.wrap ((a : Int) * 2)) (b : Int) = ((a * 2 % 18446744073709551616 + b : Nat) : Int) := by
  rw [Pl.or_comm, Pl.or_join .u64 1 (by decide) (b : Int) _ (by omega) (by omega) (by rw [IntKind.wrap_u64]; omega), IntKind.wrap_u64, IntKind.wrap_u64]
  omega
theorem or_one (a : Nat) (ha : a < 9223372036854775808) : bits .or .u64 (IntKind.u64.wrap ((a : Int) * 2)) 1 = ((2 * a + 1 : Nat) : Int) := by
  have := or_bit a 1 (by omega) (by decide)
  rw [show ((1 : Nat) : Int) = 1 from rfl] at this
  rw [this]
  omega
theorem bit_at (lo j : Nat) (hj : j ≤ 63) : bits .and .u64 (shr .u64 (lo : Int) (IntKind.u64.wrap (j : Int))) 1 = ((lo / 2 ^ j % 2 : Nat) : Int) := by
  have e : IntKind.u64.wrap (j : Int) = (j : Int) := by rw [IntKind.wrap_u64]; omega
  rw [e, Pl.shr_at .u64 (lo : Int) j (show j ≤ 64 by omega), Pl.and1 .u64 (by decide)]
  rw [Int.natCast_emod, Int.natCast_ediv, Int.natCast_pow]
  rfl
theorem div_spec (lo d : Nat) (hlo : lo < 18446744073709551616) (hd : 0 < d) (hd2 : d < 18446744073709551616) : ∀ (j : Nat) (T : Nat), j ≤ 64 → T < d * 2 ^ (64 - j) → Ev (fun k => spec_Div128.l0 k ((T % d : Nat) : Int) (lo : Int) (d : Int) ((T / d : Nat) : Int) ((j : Int) - 1)) ((((T * 2 ^ j + lo % 2 ^ j) / d : Nat) : Int), (((T * 2 ^ j + lo % 2 ^ j) % d : Nat) : Int), true)
  | 0, T, hj, hT => by
    refine Pl.ev_const 1 fun k => ?_
    show spec_Div128.l0 (k + 1) _ _ _ _ _ = _
    rw [spec_Div128.l0, if_neg (by omega)]
    simp [Nat.mod_one]
  | j + 1, T, hj, hT => by
    have hb : lo / 2 ^ j % 2 < 2 := Nat.mod_lt _ (by decide)
    have hm : lo % 2 ^ (j + 1) = lo % 2 ^ j + 2 ^ j * (lo / 2 ^ j % 2) := Nat.mod_pow_succ
    have hbit := bit_at lo j (by omega)
    obtain ⟨s1, s2⟩ := bit_step T d (lo / 2 ^ j % 2) hd hb
    have eT : T * 2 ^ (j + 1) + lo % 2 ^ (j + 1) = (2 * T + lo / 2 ^ j % 2) * 2 ^ j + lo % 2 ^ j := by
      rw [hm, Nat.pow_succ, Nat.add_mul, Nat.mul_comm (lo / 2 ^ j % 2), Nat.mul_comm 2 T, Nat.mul_assoc, Nat.mul_comm 2 (2 ^ j)]
      omega
    have hpow : (2 : Nat) ^ (64 - j) = 2 * 2 ^ (64 - (j + 1)) := by
      rw [show 64 - j = (64 - (j + 1)) + 1 by omega, Nat.pow_succ]; omega
    have hT' : 2 * T + lo / 2 ^ j % 2 < d * 2 ^ (64 - j) := by
      rw [hpow, Nat.mul_left_comm]
      generalize d * 2 ^ (64 - (j + 1)) = X at *
      omega
    have hq : T / d < 2 ^ (64 - (j + 1)) := by rw [Nat.div_lt_iff_lt_mul hd, Nat.mul_comm]; exact hT
    have hq2 : 2 ^ (64 - (j + 1)) ≤ 2 ^ 63 := Nat.pow_le_pow_right (by decide) (by omega)
    have ih := div_spec lo d hlo hd hd2 j (2 * T + lo / 2 ^ j % 2) (by omega) hT'
    rw [← eT] at ih
    have hr : T % d < d := Nat.mod_lt _ hd
    rw [s1, s2] at ih
    clear s1 s2 eT hpow hT' hm hT
    generalize T % d = r at *
    generalize T / d = q at *
    generalize lo / 2 ^ j % 2 = b at *
    have e1 : ((j + 1 : Nat) : Int) - 1 = (j : Int) := by omega
    rw [e1]
    refine Pl.ev_skip 1 (fun k => ?_) ih
    show spec_Div128.l0 (k + 1) _ _ _ _ _ = _
    have ho := or_bit r b (by omega) hb
    have ho1 := or_one q (by omega)
    rw [spec_Div128.l0, if_pos (by omega), if_pos (by rw [IntKind.wrap_u64]; omega), hbit, ho, ho1, Pl.w64 (n := (j : Int) - 1) (by omega) (by omega)]
    by_cases t : ((r : Int) / 9223372036854775808) = 1
    · rw [if_pos t, if_neg (by omega), if_neg (by omega)]
      congr 1
      · rw [IntKind.wrap_u64]; omega
    · rw [if_neg t]
      by_cases g : 2 * r + b < d
      · rw [if_neg (by omega), if_pos g, if_pos g]
        congr 1
        · omega
        · rw [IntKind.wrap_u64]; omega
      · rw [if_pos (by omega), if_neg g, if_neg g]
        congr 1
        · rw [IntKind.wrap_u64]; omega
theorem div_told (hi lo d : Nat) (h : hi < d) (hlo : lo < 18446744073709551616) (hd2 : d < 18446744073709551616) : Ev (fun k => spec_Div128.f k (hi : Int) (lo : Int) (d : Int)) ((((hi * 18446744073709551616 + lo) / d : Nat) : Int), (((hi * 18446744073709551616 + lo) % d : Nat) : Int), true) := by
  unfold spec_Div128.f
  simp only [if_neg (show ¬ (d : Int) ≤ (hi : Int) by omega)]
  have := div_spec lo d hlo (by omega) hd2 64 hi (by omega) (by omega)
  rw [Nat.mod_eq_of_lt h, Nat.div_eq_of_lt h, show (2 : Nat) ^ 64 = 18446744073709551616 from rfl, Nat.mod_eq_of_lt hlo] at this
  exact this
end Go.Proofs.Ythpmpjejjbhkjaa.OwnDivS
