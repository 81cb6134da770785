/- Plain lemmas: two numbers without a common bit, joined; shifts by small counts; no condition of its own. -/
import Derived.Test.YtfmmmfddpfddoaaPlain3
namespace Go.Proofs.Ytfmmmfddpfddoaa.Pl
open Go Go.RowKit Go.Proofs.YtfmmmfddpfddoaaW.PrintWords Go.Proofs.YtfmmmfddpfddoaaW.PrintLast Go.Proofs.YtfmmmfddpfddoaaW.PrintMore
set_option linter.unusedVariables false
set_option linter.unusedSimpArgs false
theorem wrap_congr (k : IntKind) {a b : Int} (h : a % 2 ^ k.bits = b % 2 ^ k.bits) : k.wrap a = k.wrap b := by
  simp only [IntKind.wrap, h]
theorem or_join (k : IntKind) (i : Nat) (hi : i ≤ k.bits) (x y : Int) (hx0 : 0 ≤ x) (hx1 : x < 2 ^ i) (hy : y % 2 ^ i = 0) : bits .or k x y = k.wrap (x + y) := by
  have hp : (0 : Int) < 2 ^ i := Int.pow_pos (by decide)
  have hP : (0 : Int) < 2 ^ k.bits := Int.pow_pos (by decide)
  have hle : (2 : Int) ^ i ≤ 2 ^ k.bits := by
    rw [← pow_int, ← pow_int]; exact_mod_cast Nat.pow_le_pow_right (by decide) hi
  have hd : ((2 : Int) ^ i) ∣ 2 ^ k.bits := ⟨2 ^ (k.bits - i), by rw [← Int.pow_add]; congr 1; omega⟩
  have hx : x % 2 ^ k.bits = x := Int.emod_eq_of_lt hx0 (by omega)
  have hy' : (y % 2 ^ k.bits) % 2 ^ i = 0 := by rw [Int.emod_emod_of_dvd _ hd]; exact hy
  have hyn : 0 ≤ y % 2 ^ k.bits := Int.emod_nonneg _ (by omega)
  rw [bits_or_nat, hx, ← wrap_congr k (a := x + y % 2 ^ k.bits) (b := x + y) (by rw [Int.add_emod_emod])]
  congr 1
  obtain ⟨a, ha⟩ := Int.eq_ofNat_of_zero_le hx0
  obtain ⟨b, hb⟩ := Int.eq_ofNat_of_zero_le hyn
  rw [hb] at hy' ⊢
  subst ha
  have hbm : b % 2 ^ i = 0 := by exact_mod_cast hy'
  have hal : a < 2 ^ i := by exact_mod_cast hx1
  have hq : b = 2 ^ i * (b / 2 ^ i) := by
    have := Nat.div_add_mod b (2 ^ i)
    omega
  rw [Int.toNat_natCast, Int.toNat_natCast, Nat.or_comm, hq, ← Nat.two_pow_add_eq_or_of_lt hal (b / 2 ^ i)]
  rw [← hq]
  omega
theorem shl_at (k : IntKind) (x : Int) (n : Nat) (h : n ≤ k.bits) : shl k x (n : Int) = k.wrap (x * 2 ^ n) := by
  unfold shl; rw [Int.toNat_natCast, Nat.min_eq_left h]
theorem shr_at (k : IntKind) (x : Int) (n : Nat) (h : n ≤ k.bits) : shr k x (n : Int) = x / 2 ^ n := by
  unfold shr; rw [Int.toNat_natCast, Nat.min_eq_left h]
end Go.Proofs.Ytfmmmfddpfddoaa.Pl
