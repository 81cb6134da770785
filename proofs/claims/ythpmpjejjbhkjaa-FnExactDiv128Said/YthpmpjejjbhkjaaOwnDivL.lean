/- Div128: the program's function and the statement's; no condition beside a number's range. -/
import Derived.Test.YthpmpjejjbhkjaaOwnDivW
import Derived.Test.YthpmpjejjbhkjaaOwnDivS
import Derived.Lib.ItoaNum
namespace Go.Proofs.Ythpmpjejjbhkjaa.OwnDivL
open Go Go.RowKit Go.Proofs.YthpmpjejjbhkjaaW.PrintWords Go.Proofs.YthpmpjejjbhkjaaW.PrintLast Go.Proofs.YthpmpjejjbhkjaaW.PrintMore Go.Proofs.Ythpmpjejjbhkjaa.OwnDivP Go.Proofs.Ythpmpjejjbhkjaa.OwnDivW
set_option linter.unusedVariables false
set_option linter.unusedSimpArgs false
theorem laid_of (hi lo y L : Nat) (hhi : hi < y) (hlo : lo < 2 ^ 64) (l1 : 1 ≤ L) (l2 : L ≤ 64) (l3 : 2 ^ (L - 1) ≤ y) (l4 : y < 2 ^ L) : Laid hi lo y (64 - L) (y * 2 ^ (64 - L)) (y * 2 ^ (64 - L) / 4294967296) (y * 2 ^ (64 - L) % 4294967296) (hi * 2 ^ (64 - L) + lo / 2 ^ (64 - (64 - L))) (lo * 2 ^ (64 - L) % 2 ^ 64) (lo * 2 ^ (64 - L) % 2 ^ 64 / 4294967296) (lo * 2 ^ (64 - L) % 2 ^ 64 % 4294967296) := by
  obtain ⟨s, hs⟩ : ∃ s, 64 - L = s := ⟨_, rfl⟩
  rw [hs]
  have p64 : (2 : Nat) ^ 64 = 18446744073709551616 := by decide
  have hYu : y * 2 ^ s < 2 ^ 64 := by
    have : y * 2 ^ s < 2 ^ L * 2 ^ s := Nat.mul_lt_mul_of_pos_right l4 (Nat.two_pow_pos _)
    rw [← Nat.pow_add, show L + s = 64 by omega] at this
    exact this
  have hYl : 2 ^ 63 ≤ y * 2 ^ s := by
    have : 2 ^ (L - 1) * 2 ^ s ≤ y * 2 ^ s := Nat.mul_le_mul_right _ l3
    rw [← Nat.pow_add, show L - 1 + s = 63 by omega] at this
    exact this
  have p63 : (2 : Nat) ^ 63 = 9223372036854775808 := by decide
  have hU := sh_less hi lo y s (by omega) hlo hhi
  have hA : lo / 2 ^ (64 - s) < 2 ^ s := by
    rw [Nat.div_lt_iff_lt_mul (Nat.two_pow_pos _), ← Nat.pow_add, show s + (64 - s) = 64 by omega]
    exact hlo
  have eHi : IntKind.u64.wrap ((hi : Int) * 2 ^ s) = ((hi * 2 ^ s : Nat) : Int) := by
    have e : ((hi : Int) * 2 ^ s) = ((hi * 2 ^ s : Nat) : Int) := by rw [Int.natCast_mul, Int.natCast_pow]; rfl
    rw [e, IntKind.wrap_u64]
    have : hi * 2 ^ s ≤ y * 2 ^ s := Nat.mul_le_mul_right _ (by omega)
    generalize hi * 2 ^ s = X at *
    omega
  have eY : ((y : Int) * 2 ^ s) = ((y * 2 ^ s : Nat) : Int) := by rw [Int.natCast_mul, Int.natCast_pow]; rfl
  have eV : ((lo : Int) * 2 ^ s) = ((lo * 2 ^ s : Nat) : Int) := by rw [Int.natCast_mul, Int.natCast_pow]; rfl
  have eA : ((lo : Int) / 2 ^ (64 - s)) = ((lo / 2 ^ (64 - s) : Nat) : Int) := by rw [Int.natCast_ediv, Int.natCast_pow]; rfl
  have hor : bits .or .u64 ((hi * 2 ^ s : Nat) : Int) ((lo / 2 ^ (64 - s) : Nat) : Int) = ((hi * 2 ^ s + lo / 2 ^ (64 - s) : Nat) : Int) := by
    rw [Pl.or_comm, Pl.or_join .u64 s (show s ≤ 64 by omega) _ _ (Int.natCast_nonneg _) (by rw [show (2 : Int) ^ s = ((2 ^ s : Nat) : Int) from (Int.natCast_pow 2 s).symm]; exact Int.ofNat_lt.2 hA) (by rw [Int.natCast_mul, Int.natCast_pow]; exact Int.mul_emod_left _ _), IntKind.wrap_u64]
    rw [p64] at *
    generalize hi * 2 ^ s = X at *
    generalize lo / 2 ^ (64 - s) = A at *
    omega
  refine ⟨by omega, ?_, ?_, ?_, by rw [IntKind.wrap_u64]; omega, ?_, ?_, ?_, ?_, ?_, ?_, ?_, ?_, hU, ?_, ?_⟩
  · rw [eY, IntKind.wrap_u64]; omega
  · rw [Int.natCast_ediv]; rfl
  · rw [show (4294967295 : Int) = 2 ^ 32 - 1 by decide, Pl.and_mask .u64 32 (by decide) _, Int.natCast_emod]; rfl
  · rw [eHi, eA, hor]
  · rw [eV, IntKind.wrap_u64, Int.natCast_emod]; rfl
  · rw [Int.natCast_ediv]; rfl
  · rw [show (4294967295 : Int) = 2 ^ 32 - 1 by decide, Pl.and_mask .u64 32 (by decide) _, Int.natCast_emod]; rfl
  · have := Nat.div_add_mod (y * 2 ^ s) 4294967296; omega
  · exact Nat.mod_lt _ (by decide)
  · rw [p64] at hYu; omega
  · rw [p63] at hYl; omega
  · have : lo * 2 ^ s % 2 ^ 64 < 2 ^ 64 := Nat.mod_lt _ (by decide)
    rw [p64] at *; omega
  · exact Nat.mod_lt _ (by decide)
theorem quot_of (hi lo y s : Nat) (hs : s ≤ 64) (hy : 0 < y) (h64 : lo * 2 ^ s % 2 ^ 64 < 18446744073709551616) : let Y := y * 2 ^ s; let U := hi * 2 ^ s + lo / 2 ^ (64 - s); let V := lo * 2 ^ s % 2 ^ 64; let u1 := V / 4294967296; let u0 := V % 4294967296; let R := U * 4294967296 + u1 - (U * 4294967296 + u1) / Y * Y; (U * 4294967296 + u1) / Y * 4294967296 + (R * 4294967296 + u0) / Y = (hi * 18446744073709551616 + lo) / y ∧ (R * 4294967296 + u0 - (R * 4294967296 + u0) / Y * Y) / 2 ^ s = (hi * 18446744073709551616 + lo) % y := by
  intro Y U V u1 u0 R
  have hY : 0 < Y := Nat.mul_pos hy (Nat.two_pow_pos _)
  have k := kn_two 4294967296 Y U u1 u0 hY (Nat.mod_lt _ (by decide)) (Nat.div_lt_of_lt_mul (Nat.lt_of_lt_of_le h64 (by decide)))
  have e1 : U * (4294967296 * 4294967296) + (u1 * 4294967296 + u0) = (hi * 18446744073709551616 + lo) * 2 ^ s := by
    have h1 := sh_two hi lo s hs
    rw [show (2 : Nat) ^ 64 = 18446744073709551616 by decide] at h1
    have h2 : u1 * 4294967296 + u0 = V := by have h3 := Nat.div_add_mod V 4294967296; rw [Nat.mul_comm] at h3; exact h3
    rw [h2, show (4294967296 * 4294967296 : Nat) = 18446744073709551616 by decide]
    exact h1
  have d := sh_div (hi * 18446744073709551616 + lo) y s
  obtain ⟨k1, k2⟩ := k
  rw [e1] at k1 k2
  exact ⟨k1.trans d.1, by rw [← d.2]; exact congrArg (· / 2 ^ s) k2⟩
set_option maxRecDepth 100000 in
set_option maxHeartbeats 8000000 in
theorem low (lo y : Nat) (hy0 : 0 < y) (hlo : lo < 18446744073709551616) (hy : y < 18446744073709551616) (w : World) : Calls Try.prog 64 #[.int .u64 0, .int .u64 lo, .int .u64 y] w fun e w' => e = .returned (.tuple #[.int .u64 ((lo / y : Nat) : Int), .int .u64 ((lo % y : Nat) : Int)]) ∧ Below w.heap.size w w' := by
  have z1 : ((y : Int) == 0) = false := beq_eq_false_iff_ne.2 (by omega)
  have z2 : decide ((y : Int) ≤ 0) = false := decide_eq_false (by omega)
  have z5 : ¬ (y : Int) = 0 := by omega
  have g1 : (lo : Int) / (y : Int) = ((lo / y : Nat) : Int) := by rw [Int.natCast_ediv]
  have g2 : (lo : Int) % (y : Int) = ((lo % y : Nat) : Int) := by rw [Int.natCast_emod]
  have l1 : lo / y ≤ lo := Nat.div_le_self _ _
  have l2 : lo % y ≤ lo := Nat.mod_le _ _
  have w1 : IntKind.u64.wrap ((lo / y : Nat) : Int) = ((lo / y : Nat) : Int) := by rw [IntKind.wrap_u64]; generalize lo / y = q at *; omega
  have w2 : IntKind.u64.wrap ((lo % y : Nat) : Int) = ((lo % y : Nat) : Int) := by rw [IntKind.wrap_u64]; generalize lo % y = q at *; omega
  generalize lo / y = q at *
  generalize lo % y = r at *
  clear l1 l2
  go_enter Try.func64, Try.ntmps64
  go_upto_region 6 with fail
  go_quiet (fail)
  go_wp2
  go_ret2
  exact ⟨by show Ending.returned (.tuple #[.int .u64 (q : Int), .int .u64 ((lo : Int) % (y : Int))]) = _; rw [g2], by repeat (first | (with_reducible exact Below.refl _ _) | (with_reducible refine below_drew1 ?_) | (with_reducible refine Go.below_drewN ?_ _) | (with_reducible refine pw_below_drewN ?_ _))⟩
theorem div64 (hi lo y : Nat) (hhi : hi < y) (hlo : lo < 18446744073709551616) (hy : y < 18446744073709551616) (w : World) : Calls Try.prog 64 #[.int .u64 hi, .int .u64 lo, .int .u64 y] w fun e w' => e = .returned (.tuple #[.int .u64 (((hi * 18446744073709551616 + lo) / y : Nat) : Int), .int .u64 (((hi * 18446744073709551616 + lo) % y : Nat) : Int)]) ∧ Below w.heap.size w w' := by
  by_cases hz : hi = 0
  · subst hz
    rw [Nat.zero_mul, Nat.zero_add]
    exact low lo y hhi hlo hy w
  · have p64 : (2 : Nat) ^ 64 = 18446744073709551616 := by decide
    have hb := Lib.bitLenAux_bounds 64 y (by rw [p64]; exact hy) (by omega)
    have hl : Lib.bitLen y ≤ 64 := Lib.bitLen_le y 64 (by omega) (by rw [p64]; exact hy)
    have H := laid_of hi lo y (Lib.bitLen y) hhi (by rw [p64]; exact hlo) hb.1 hl hb.2.1 hb.2.2
    have q := quot_of hi lo y (64 - Lib.bitLen y) (by omega) (by omega) (by rw [← p64]; exact Nat.mod_lt _ (by decide))
    have cl : ∀ w, Calls Try.prog 80 #[.int .u64 (y : Int)] w fun e w' => e = .returned (.int .i64 ((64 - Lib.bitLen y : Nat) : Int)) ∧ w' = w := fun w => (Try.bits_LeadingZeros64 (y : Int) w (by omega) (by omega)).mono fun e w' ⟨h1, h2⟩ => ⟨by rw [h1, Int.toNat_natCast]; congr 2; omega, h2⟩
    have B := big hi lo y _ _ _ _ _ _ _ _ hz hhi hlo hy H _ _ _ _ rfl rfl rfl rfl cl w
    rw [q.1, q.2] at B
    exact B
set_option maxRecDepth 100000 in
set_option maxHeartbeats 8000000 in
theorem impl (hi lo y : Nat) (hhi : hi < y) (hlo : lo < 18446744073709551616) (hy : y < 18446744073709551616) (w : World) : Calls Try.prog 37 #[.int .u64 hi, .int .u64 lo, .int .u64 y] w fun e w' => e = .returned (.tuple #[.int .u64 (((hi * 18446744073709551616 + lo) / y : Nat) : Int), .int .u64 (((hi * 18446744073709551616 + lo) % y : Nat) : Int), .bool true]) ∧ Below w.heap.size w w' := by
  have c := fun w => div64 hi lo y hhi hlo hy w
  have z2 : decide ((y : Int) ≤ (hi : Int)) = false := decide_eq_false (by omega)
  generalize (hi * 18446744073709551616 + lo) / y = q at *
  generalize (hi * 18446744073709551616 + lo) % y = r at *
  go_enter Try.func37, Try.ntmps37
  go_wp2_with (first | (go_at_call 64; (with_reducible refine (c _).mono ?_); rintro e w2 ⟨rfl, hb2⟩))
  go_ret3
  exact ⟨rfl, hb2⟩
set_option maxRecDepth 100000 in
set_option maxHeartbeats 8000000 in
theorem impl_no (hi lo y : Nat) (hhi : y ≤ hi) (w : World) : Calls Try.prog 37 #[.int .u64 hi, .int .u64 lo, .int .u64 y] w fun e w' => e = .returned (.tuple #[.int .u64 0, .int .u64 0, .bool false]) ∧ Below w.heap.size w w' := by
  have z2 : decide ((y : Int) ≤ (hi : Int)) = true := decide_eq_true (by omega)
  go_enter Try.func37, Try.ntmps37
  go_wp2
  go_ret3
  exact ⟨rfl, Below.refl _ _⟩
end Go.Proofs.Ythpmpjejjbhkjaa.OwnDivL
