/- Plain lemmas on bits, shifts, bytes and rounds, for the statements' pure parts; no condition of its own. -/
import Derived.Test.YtfmmmfddpfddoaaWMore
import Derived.Laws.BitsLemmas
namespace Go.Proofs.Ytfmmmfddpfddoaa.Pl
open Go Go.RowKit Go.Proofs.YtfmmmfddpfddoaaW.PrintWords Go.Proofs.YtfmmmfddpfddoaaW.PrintLast Go.Proofs.YtfmmmfddpfddoaaW.PrintMore
set_option linter.unusedVariables false
set_option linter.unusedSimpArgs false

/-! ### wrap -/
theorem wrap_u64 (n : Int) : IntKind.u64.wrap n = n % 18446744073709551616 := by simp [IntKind.wrap, IntKind.bits, IntKind.signed]
theorem wrap_u16 (n : Int) : IntKind.u16.wrap n = n % 65536 := by simp [IntKind.wrap, IntKind.bits, IntKind.signed]
theorem wrap_small (k : IntKind) (v : Int) (h0 : 0 ≤ v) (h1 : v < 2 ^ (k.bits - 1)) : k.wrap v = v := by
  cases k <;> simp only [IntKind.wrap, IntKind.bits, IntKind.signed] at * <;> simp at * <;> omega
theorem wf_u64 {a : Int} (h : (Lit.int .u64 a).wf = true) : 0 ≤ a ∧ a < 18446744073709551616 := by
  simp [Lit.wf, IntKind.min, IntKind.max, IntKind.signed, IntKind.bits] at h; omega
theorem wf_u32 {a : Int} (h : (Lit.int .u32 a).wf = true) : 0 ≤ a ∧ a < 4294967296 := by
  simp [Lit.wf, IntKind.min, IntKind.max, IntKind.signed, IntKind.bits] at h; omega
theorem wf_i64 {a : Int} (h : (Lit.int .i64 a).wf = true) : -9223372036854775808 ≤ a ∧ a < 9223372036854775808 := by
  simp [Lit.wf, IntKind.min, IntKind.max, IntKind.signed, IntKind.bits] at h; omega
theorem w64 {n : Int} (h0 : -9223372036854775808 ≤ n) (h1 : n < 9223372036854775808) : wrap64 n = n := by unfold wrap64; omega

/-! ### bits -/
theorem toNat_ofInt (n : Nat) (x : Int) : (BitVec.ofInt n x).toNat = (x % 2 ^ n).toNat := by simp [BitVec.toNat_ofInt]
theorem pow_int (i : Nat) : ((2 ^ i : Nat) : Int) = (2 : Int) ^ i := by simp
theorem bits_and_nat (k : IntKind) (x y : Int) : bits .and k x y = k.wrap (((x % 2 ^ k.bits).toNat &&& (y % 2 ^ k.bits).toNat : Nat) : Int) := by
  simp only [bits, BitVec.toNat_and, toNat_ofInt]
theorem bits_or_nat (k : IntKind) (x y : Int) : bits .or k x y = k.wrap (((x % 2 ^ k.bits).toNat ||| (y % 2 ^ k.bits).toNat : Nat) : Int) := by
  simp only [bits, BitVec.toNat_or, toNat_ofInt]
theorem bits_xor_nat (k : IntKind) (x y : Int) : bits .xor k x y = k.wrap (((x % 2 ^ k.bits).toNat ^^^ (y % 2 ^ k.bits).toNat : Nat) : Int) := by
  simp only [bits, BitVec.toNat_xor, toNat_ofInt]
theorem or_comm (k : IntKind) (x y : Int) : bits .or k x y = bits .or k y x := by
  rw [bits_or_nat, bits_or_nat, Nat.or_comm]
theorem and_comm' (k : IntKind) (x y : Int) : bits .and k x y = bits .and k y x := by
  rw [bits_and_nat, bits_and_nat, Nat.and_comm]
/-- The lowest i bits. -/
theorem and_mask (k : IntKind) (i : Nat) (hi : i < k.bits) (x : Int) : bits .and k x (2 ^ i - 1) = x % 2 ^ i := by
  have hp : (0 : Int) < 2 ^ i := Int.pow_pos (by decide)
  have hlt : (2 : Int) ^ i < 2 ^ k.bits := by
    rw [← pow_int, ← pow_int]; exact_mod_cast Nat.pow_lt_pow_right (by decide) hi
  have hm : ((2 : Int) ^ i - 1) % 2 ^ k.bits = 2 ^ i - 1 := Int.emod_eq_of_lt (by omega) (by omega)
  have ht : ((2 : Int) ^ i - 1).toNat = 2 ^ i - 1 := by
    have : ((2 : Int) ^ i) = ((2 ^ i : Nat) : Int) := (pow_int i).symm
    rw [this]; omega
  rw [bits_and_nat, hm, ht, Nat.and_two_pow_sub_one_eq_mod]
  have hd : ((2 : Int) ^ i) ∣ 2 ^ k.bits := ⟨2 ^ (k.bits - i), by rw [← Int.pow_add]; congr 1; omega⟩
  have hnn : 0 ≤ x % 2 ^ k.bits := Int.emod_nonneg _ (by omega)
  have hc : (((x % 2 ^ k.bits).toNat % 2 ^ i : Nat) : Int) = x % 2 ^ i := by
    rw [Int.natCast_emod, Int.toNat_of_nonneg hnn, pow_int, Int.emod_emod_of_dvd _ hd]
  rw [hc]
  have h0 : 0 ≤ x % 2 ^ i := Int.emod_nonneg _ (by omega)
  have h1 : x % 2 ^ i < 2 ^ i := Int.emod_lt_of_pos _ hp
  refine wrap_small k _ h0 (Int.lt_of_lt_of_le h1 ?_)
  rw [← pow_int, ← pow_int]; exact_mod_cast Nat.pow_le_pow_right (by decide) (by omega)
theorem and127 (k : IntKind) (hk : 7 < k.bits) (x : Int) : bits .and k x 127 = x % 128 := and_mask k 7 hk x
theorem and1 (k : IntKind) (hk : 1 < k.bits) (x : Int) : bits .and k x 1 = x % 2 := and_mask k 1 hk x
theorem and_u32max (x : Int) : bits .and .u64 x 4294967295 = x % 4294967296 := and_mask .u64 32 (by decide) x
/-- A number below 2^i and one that is a multiple of 2^i, joined. -/
theorem or_join_u64 (i : Nat) (x y : Int) (hx0 : 0 ≤ x) (hx1 : x < 2 ^ i) (hy0 : 0 ≤ y) (hy : y % 2 ^ i = 0) (hx2 : x < 18446744073709551616) (hy1 : y < 18446744073709551616) : bits .or .u64 x y = x + y := by
  rw [or_comm, bits_join .u64 64 (by decide) (fun n h0 h1 => by rw [wrap_u64]; omega) i y x hy0 hy (by simpa using hy1) hx0 hx1 (by simpa using hx2)]
  omega
/-! ### bytes -/
theorem or_u8_128 (v : Int) (h0 : 0 ≤ v) (h1 : v < 256) : bits .or .u8 v 128 = v % 128 + 128 := by
  have key : ∀ v : Fin 256, bits .or .u8 (v.val : Int) 128 = (v.val : Int) % 128 + 128 := by decide +kernel
  have := key ⟨v.toNat, by omega⟩
  simp only [Int.toNat_of_nonneg h0] at this
  exact this
theorem strOfNums_size (xs : List Int) : (strOfNums xs).size = xs.length := by
  simp [strOfNums, ByteArray.size]
end Go.Proofs.Ytfmmmfddpfddoaa.Pl
