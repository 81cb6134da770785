/- For every input that the given statement FnExactBinary lets in, the statement's function comes to true: what the program's function gives is what the reference's gives; no condition beside the statement's own. -/
import Derived.Test.YtfncjcnlndoelaaPFnExactBinaryx3
import Derived.Test.YtfncjcnlndoelaaPlain4
namespace Go.Proofs.Ytfncjcnlndoelaa.Pure
open Go.RowKit Go.Proofs.Ytfncjcnlndoelaa.PFnExactBinary Go.Proofs.YtfncjcnlndoelaaW.PrintWords Go.Proofs.YtfncjcnlndoelaaW.PrintLast
open Go
open Go.Proofs.YtfncjcnlndoelaaW.PrintMore
set_option linter.unusedVariables false
set_option linter.unusedSimpArgs false

/-! ### The two-operand ops -/
def M (n x : Int) : Int := if n = 32 then x % 4294967296 else x
def Sg (n x : Int) : Int := if n = 32 then wrap64 (wrap32 x) else wrap64 x
theorem mask_told (n x : Int) : spec_l3Mask.f n x = some (M n x) := by
  unfold spec_l3Mask.f M; rw [Pl.and_u32max]; split <;> rfl
theorem cut_told (n x : Int) : impl_cut.f n x = some (M n x) := by
  unfold impl_cut.f M; rw [Pl.and_u32max]; split <;> rfl
theorem signed_told (n x : Int) : spec_l3Signed.f n x = some (Sg n x) := by
  unfold spec_l3Signed.f Sg
  split
  · rw [show wrap32 (x % 4294967296) = wrap32 x by unfold wrap32; omega]
  · rfl
theorem signed_told' (n x : Int) : impl_signed.f n x = some (Sg n x) := by
  unfold impl_signed.f Sg; split <;> rfl
theorem yes_told (b : Bool) : spec_l3Yes.f b = some (if b = true then 1 else 0) := by unfold spec_l3Yes.f; cases b <;> rfl
theorem truth_told (b : Bool) : impl_truth.f b = some (if b = true then 1 else 0) := by unfold impl_truth.f; cases b <;> rfl
theorem yes_mask (n : Int) (b : Bool) : M n (if b = true then 1 else 0) = if b = true then 1 else 0 := by unfold M; cases b <;> simp
/-- A bitwise op of two numbers below 2^32 stays below. -/
theorem bits_lt32 (op : BinOp) (hop : op = .and ∨ op = .or ∨ op = .xor) (x y : Int) (hx0 : 0 ≤ x) (hx : x < 4294967296) (hy0 : 0 ≤ y) (hy : y < 4294967296) : 0 ≤ bits op .u64 x y ∧ bits op .u64 x y < 4294967296 := by
  obtain ⟨a, rfl⟩ := Int.eq_ofNat_of_zero_le hx0
  obtain ⟨b, rfl⟩ := Int.eq_ofNat_of_zero_le hy0
  have ha : a < 2 ^ 32 := by omega
  have hb : b < 2 ^ 32 := by omega
  have e : ∀ z : Nat, z < 2 ^ 32 → ((z : Int) % 2 ^ IntKind.u64.bits).toNat = z := by
    intro z hz; simp only [IntKind.bits]; omega
  rcases hop with rfl | rfl | rfl
  · rw [Pl.bits_and_nat, e a ha, e b hb, Pl.wrap_u64]
    have := Nat.and_lt_two_pow a hb
    omega
  · rw [Pl.bits_or_nat, e a ha, e b hb, Pl.wrap_u64]
    have := Nat.or_lt_two_pow ha hb
    omega
  · rw [Pl.bits_xor_nat, e a ha, e b hb, Pl.wrap_u64]
    have := Nat.xor_lt_two_pow ha hb
    omega
theorem M_bits (n : Int) (op : BinOp) (hop : op = .and ∨ op = .or ∨ op = .xor) (x y : Int) (hx0 : 0 ≤ x) (hx : n = 32 → x < 4294967296) (hy0 : 0 ≤ y) (hy : n = 32 → y < 4294967296) : M n (bits op .u64 x y) = bits op .u64 x y := by
  unfold M
  split
  · rename_i h
    have := bits_lt32 op hop x y hx0 (hx h) hy0 (hy h)
    omega
  · rfl
/-- Turned bits, in 32. -/
theorem rot32 (x : Int) (hx0 : 0 ≤ x) (hx : x < 4294967296) (m : Nat) (hm : m ≤ 32) : bits .or .u64 (shl .u64 x (m : Int)) (shr .u64 x ((32 - m : Nat) : Int)) % 4294967296 = bits .or .u32 (shl .u32 x (m : Int)) (shr .u32 x ((32 - m : Nat) : Int)) := by
  have hp : (0 : Int) < 2 ^ m := Int.pow_pos (by decide)
  have hP : (2 : Int) ^ m * 2 ^ (32 - m) = 4294967296 := by rw [← Int.pow_add, show m + (32 - m) = 32 by omega]; rfl
  have hq : (0 : Int) < 2 ^ (32 - m) := Int.pow_pos (by decide)
  have hr : x / 2 ^ (32 - m) < 2 ^ m := Int.ediv_lt_of_lt_mul hq (by rw [hP]; exact hx)
  have hr0 : 0 ≤ x / 2 ^ (32 - m) := Int.ediv_nonneg hx0 (by omega)
  have hle : (2 : Int) ^ m ≤ 4294967296 := by
    have := Int.mul_le_mul_of_nonneg_left (show (1 : Int) ≤ 2 ^ (32 - m) by omega) (show (0 : Int) ≤ 2 ^ m by omega)
    omega
  have hx2 : x * 2 ^ m < 4294967296 * 4294967296 := by
    have h1 : x * 2 ^ m ≤ x * 4294967296 := Int.mul_le_mul_of_nonneg_left hle hx0
    omega
  have hx3 : 0 ≤ x * 2 ^ m := Int.mul_nonneg hx0 (by omega)
  have hd64 : ((2 : Int) ^ m) ∣ 18446744073709551616 := ⟨2 ^ (64 - m), by rw [← Int.pow_add, show m + (64 - m) = 64 by omega]; rfl⟩
  have hd32 : ((2 : Int) ^ m) ∣ 4294967296 := ⟨2 ^ (32 - m), by rw [hP]⟩
  rw [Pl.shl_at _ _ _ (show m ≤ 64 by omega), Pl.shr_at _ _ _ (show 32 - m ≤ 64 by omega), Pl.shl_at _ _ _ (show m ≤ 32 by omega), Pl.shr_at _ _ _ (show 32 - m ≤ 32 by omega)]
  rw [Pl.or_comm .u64, Pl.or_comm .u32, Pl.or_join .u64 m (show m ≤ 64 by omega) _ _ hr0 hr (by rw [Pl.wrap_u64, Int.emod_emod_of_dvd _ hd64, Int.mul_emod_left]), Pl.or_join .u32 m (show m ≤ 32 by omega) _ _ hr0 hr (by rw [IntKind.wrap_u32, Int.emod_emod_of_dvd _ hd32, Int.mul_emod_left])]
  rw [Pl.wrap_u64, Pl.wrap_u64, IntKind.wrap_u32, IntKind.wrap_u32]
  omega
theorem rot_spec32 (x n : Int) (hx0 : 0 ≤ x) (hx : x < 4294967296) (h0 : 0 ≤ n) (h1 : n < 32) : M 32 (bits .or .u64 (shl .u64 x n) (shr .u64 x (32 - n))) = bits .or .u32 (shl .u32 x n) (shr .u32 x (32 - n)) ∧
    M 32 (bits .or .u64 (shr .u64 x n) (shl .u64 x (32 - n))) = bits .or .u32 (shl .u32 x (32 - n)) (shr .u32 x n) := by
  unfold M
  rw [if_pos rfl, if_pos rfl]
  constructor
  · have := rot32 x hx0 hx n.toNat (by omega)
    rw [show ((n.toNat : Nat) : Int) = n by omega, show ((32 - n.toNat : Nat) : Int) = 32 - n by omega] at this
    exact this
  · have := rot32 x hx0 hx (32 - n.toNat) (by omega)
    rw [show ((32 - n.toNat : Nat) : Int) = 32 - n by omega, show ((32 - (32 - n.toNat) : Nat) : Int) = n by omega] at this
    rw [Pl.or_comm .u64]
    exact this
theorem or_zero32 (x : Int) (h0 : 0 ≤ x) (h : x < 4294967296) : bits .or .u32 x 0 = x ∧ bits .or .u32 0 x = x := by
  have e : bits .or .u32 0 x = x := by
    rw [Pl.or_join .u32 0 (by decide) 0 x (by decide) (by decide) (by simp [Int.emod_one]), IntKind.wrap_u32]; omega
  exact ⟨by rw [Pl.or_comm]; exact e, e⟩
theorem or_zero64 (x : Int) (h0 : 0 ≤ x) (h : x < 18446744073709551616) : bits .or .u64 x 0 = x ∧ bits .or .u64 0 x = x := by
  have e : bits .or .u64 0 x = x := by
    rw [Pl.or_join .u64 0 (by decide) 0 x (by decide) (by decide) (by simp [Int.emod_one]), Pl.wrap_u64]; omega
  exact ⟨by rw [Pl.or_comm]; exact e, e⟩
theorem shr0 (k : IntKind) (x : Int) : shr k x 0 = x := by simp [shr]
theorem shl0_32 (x : Int) (h0 : 0 ≤ x) (h : x < 4294967296) : shl .u32 x 0 = x := by simp [shl, IntKind.wrap_u32]; omega
theorem shl0_64 (x : Int) (h0 : 0 ≤ x) (h : x < 18446744073709551616) : shl .u64 x 0 = x := by simp [shl, Pl.wrap_u64]; omega
theorem rotl_told (n A m : Int) (hn : n = 32 ∨ n = 64) (hA0 : 0 ≤ A) (hA : A < 2 ^ n.toNat) (h0 : 0 ≤ m) (h1 : m < n) : impl_rotl.f n A m = some (M n (bits .or .u64 (shl .u64 A m) (shr .u64 A (n - m)))) ∧ impl_rotl.f n A (wrap64 (-m)) = some (M n (bits .or .u64 (shr .u64 A m) (shl .u64 A (n - m)))) := by
  rcases hn with rfl | rfl
  · have hA' : A < 4294967296 := by simpa using hA
    have e : A % 4294967296 = A := Int.emod_eq_of_lt hA0 hA'
    obtain ⟨r1, r2⟩ := rot_spec32 A m hA0 hA' h0 h1
    rw [r1, r2]
    have rng : ∀ x y : Int, IntKind.u64.wrap (bits .or .u32 x y) = bits .or .u32 x y := by
      intro x y; rw [Pl.bits_or_nat, IntKind.wrap_u32, Pl.wrap_u64]; omega
    have and31 : ∀ x : Int, bits .and .u64 x 31 = x % 32 := fun x => Pl.and_mask .u64 5 (by decide) x
    constructor
    · unfold impl_rotl.f bits_RotateLeft32.f
      rw [if_pos rfl, e, and31, Pl.wrap_u64, show m % 18446744073709551616 % 32 = m by omega, Pl.wrap_u64, show (32 - m) % 18446744073709551616 = 32 - m by omega, if_pos (by omega), if_pos (by omega)]
      simp only [Option.bind_some, rng]
    · unfold impl_rotl.f bits_RotateLeft32.f
      rw [if_pos rfl, e, and31, Pl.w64 (by omega) (by omega), Pl.wrap_u64]
      by_cases hm : m = 0
      · subst hm
        rw [show -0 % 18446744073709551616 % 32 = (0 : Int) by decide, Pl.wrap_u64, show (32 - 0) % 18446744073709551616 = (32 : Int) by decide, if_pos (by decide), if_pos (by decide)]
        simp only [Option.bind_some, rng, shl0_32 A hA0 hA', shr0]
        rw [show (32 : Int) - 0 = 32 by decide, show shr .u32 A 32 = 0 by unfold shr; simp [IntKind.bits]; omega, show shl .u32 A 32 = 0 by unfold shl; simp [IntKind.bits, IntKind.wrap_u32], (or_zero32 A hA0 hA').1, (or_zero32 A hA0 hA').2]
      · rw [show -m % 18446744073709551616 % 32 = 32 - m by omega, Pl.wrap_u64, show (32 - (32 - m)) % 18446744073709551616 = m by omega, if_pos (by omega), if_pos (by omega)]
        simp only [Option.bind_some, rng]
  · have hA' : A < 18446744073709551616 := by simpa using hA
    have and63 : ∀ x : Int, bits .and .u64 x 63 = x % 64 := fun x => Pl.and_mask .u64 6 (by decide) x
    have em : ∀ x, M 64 x = x := fun x => rfl
    rw [em, em]
    constructor
    · unfold impl_rotl.f bits_RotateLeft64.f
      rw [if_neg (by decide), and63, Pl.wrap_u64, show m % 18446744073709551616 % 64 = m by omega, Pl.wrap_u64, show (64 - m) % 18446744073709551616 = 64 - m by omega, if_pos (by omega), if_pos (by omega)]
      simp only [Option.bind_some]
    · unfold impl_rotl.f bits_RotateLeft64.f
      rw [if_neg (by decide), and63, Pl.w64 (by omega) (by omega), Pl.wrap_u64]
      by_cases hm : m = 0
      · subst hm
        rw [show -0 % 18446744073709551616 % 64 = (0 : Int) by decide, Pl.wrap_u64, show (64 - 0) % 18446744073709551616 = (64 : Int) by decide, if_pos (by decide), if_pos (by decide)]
        simp only [Option.bind_some, shl0_64 A hA0 hA', shr0]
        rw [show (64 : Int) - 0 = 64 by decide, show shr .u64 A 64 = 0 by unfold shr; simp [IntKind.bits]; omega, show shl .u64 A 64 = 0 by unfold shl; simp [IntKind.bits, Pl.wrap_u64], (or_zero64 A hA0 hA').1]
      · rw [show -m % 18446744073709551616 % 64 = 64 - m by omega, Pl.wrap_u64, show (64 - (64 - m)) % 18446744073709551616 = m by omega, if_pos (by omega), if_pos (by omega)]
        simp only [Option.bind_some]
        rw [Pl.or_comm]
/-- Division. -/
theorem divide_told (n op A B : Int) (hn : n = 32 ∨ n = 64) (hop : op = 4 ∨ op = 5 ∨ op = 6 ∨ op = 7) (hA0 : 0 ≤ A) (hA : A < 2 ^ n.toNat) (hB0 : 0 ≤ B) (hB : B < 2 ^ n.toNat) : ∃ r, spec_l3Divide.f n op A B = some r ∧ ∀ k, impl_divide.f (k + 2) n op A B = some r := by
  unfold spec_l3Divide.f impl_divide.f
  by_cases hb : B = 0
  · exact ⟨(0, 1), by rw [if_pos hb], fun k => by rw [if_pos hb]⟩
  · simp only [if_neg hb]
    by_cases h5 : op = 5
    · exact ⟨_, by rw [if_pos h5], fun k => by rw [if_pos h5]⟩
    · by_cases h7 : op = 7
      · exact ⟨_, by rw [if_neg h5, if_pos h7], fun k => by rw [if_neg h5, if_pos h7]⟩
      · simp only [if_neg h5, if_neg h7, signed_told, signed_told', Option.bind_some, mask_told]
        -- the least number
        have hw : wrap64 (n - 1) = n - 1 := Pl.w64 (by omega) (by omega)
        have hu : IntKind.u64.wrap (n - 1) = n - 1 := by rw [Pl.wrap_u64]; omega
        have hsh : shl .u64 1 (n - 1) = if n = 32 then 2147483648 else 9223372036854775808 := by rcases hn with rfl | rfl <;> decide +kernel
        have hsl : Sg n (if n = 32 then 2147483648 else 9223372036854775808) = if n = 32 then -2147483648 else -9223372036854775808 := by rcases hn with rfl | rfl <;> decide +kernel
        have hleast : (Sg n A = if n = 32 then -2147483648 else -9223372036854775808) ↔ A = if n = 32 then 2147483648 else 9223372036854775808 := by
          rcases hn with rfl | rfl
          · have : A < 4294967296 := by simpa using hA
            simp only [Sg, if_true]; unfold wrap64 wrap32; omega
          · have : A < 18446744073709551616 := by simpa using hA
            simp only [Sg]; rw [if_neg (by decide), if_neg (by decide), if_neg (by decide)]; unfold wrap64; omega
        have hneg : M n (IntKind.u64.wrap (-A)) = M n (IntKind.u64.wrap (wrap64 (Int.tdiv (Sg n A) (-1)))) := by
          rw [Int.tdiv_neg, Int.tdiv_one]
          rcases hn with rfl | rfl
          · have : A < 4294967296 := by simpa using hA
            simp only [M, Sg, if_true, Pl.wrap_u64]; unfold wrap64 wrap32; omega
          · have : A < 18446744073709551616 := by simpa using hA
            simp only [M, Sg, Pl.wrap_u64]; rw [if_neg (by decide), if_neg (by decide), if_neg (by decide)]; unfold wrap64; omega
        have hnz : Sg n B ≠ 0 := by
          rcases hn with rfl | rfl
          · have : B < 4294967296 := by simpa using hB
            simp only [Sg, if_true]; unfold wrap64 wrap32; omega
          · have : B < 18446744073709551616 := by simpa using hB
            simp only [Sg]; rw [if_neg (by decide)]; unfold wrap64; omega
        simp only [hw, hu, hsh]
        simp only [hsl]
        have h0 : 0 ≤ n - 1 := by omega
        simp only [if_pos h0]
        have hz : M n (IntKind.u64.wrap 0) = 0 := by rcases hn with rfl | rfl <;> decide +kernel
        generalize (if n = 32 then (-2147483648 : Int) else -9223372036854775808) = L at *
        generalize (if n = 32 then (2147483648 : Int) else 9223372036854775808) = L' at *
        generalize Sg n A = X at *
        generalize Sg n B = Y at *
        clear hsl hsh hw hu
        by_cases hy : Y = -1
        · subst hy
          by_cases hl : A = L'
          · have hx : X = L := hleast.2 hl
            by_cases h6 : op = 6
            · subst h6
              refine ⟨(0, 0), by simp, fun k => ?_⟩
              simp [impl_divide.j0, impl_divide.j1, hx]
            · have h4 : op = 4 := by omega
              subst h4
              refine ⟨(0, 2), by simp [hl], fun k => ?_⟩
              simp [impl_divide.j0, impl_divide.j1, hx]
          · have hx : ¬ X = L := fun h => hl (hleast.1 h)
            by_cases h6 : op = 6
            · subst h6
              refine ⟨(0, 0), by simp, fun k => ?_⟩
              simp [impl_divide.j0, impl_divide.j1, hx, cut_told, hz]
            · have h4 : op = 4 := by omega
              subst h4
              refine ⟨(M n (IntKind.u64.wrap (-A)), 0), by simp [hl], fun k => ?_⟩
              rw [hneg]
              simp [impl_divide.j0, impl_divide.j1, hx, cut_told]
        · have hyb : (Y == -1) = false := beq_eq_false_iff_ne.2 hy
          by_cases h4 : op = 4
          · subst h4
            refine ⟨(M n (IntKind.u64.wrap (wrap64 (Int.tdiv X Y))), 0), by simp [hy, hnz], fun k => ?_⟩
            simp [impl_divide.j0, impl_divide.j1, hyb, cut_told, hnz]
          · refine ⟨(M n (IntKind.u64.wrap (Int.tmod X Y)), 0), by simp [hy, hnz, h4], fun k => ?_⟩
            simp [impl_divide.j0, impl_divide.j1, hyb, cut_told, hnz, h4]
theorem M_range (n x : Int) (hn : n = 32 ∨ n = 64) (h0 : 0 ≤ x) (h1 : x < 18446744073709551616) : 0 ≤ M n x ∧ M n x < 2 ^ n.toNat ∧ M n x < 18446744073709551616 := by
  rcases hn with rfl | rfl
  · unfold M; rw [if_pos rfl]
    have e : (2 : Int) ^ (32 : Int).toNat = 4294967296 := by decide
    omega
  · unfold M; rw [if_neg (by decide)]
    have e : (2 : Int) ^ (64 : Int).toNat = 18446744073709551616 := by decide
    omega
theorem lt32 {n A : Int} (h : A < 2 ^ n.toNat) : n = 32 → A < 4294967296 := by
  intro e; subst e; simpa using h
theorem bin_told (n op a b : Int) (hn : n = 32 ∨ n = 64) (ho : 1 ≤ op ∧ op ≤ 21) (ha0 : 0 ≤ a) (ha1 : a < 18446744073709551616) (hb0 : 0 ≤ b) (hb1 : b < 18446744073709551616) :
    ∃ r, ∀ k, spec_Binary.f (k + 4) n op a b = some r ∧ impl_Binary.f (k + 4) n op a b = some r := by
  obtain ⟨A0, A1, A2⟩ := M_range n a hn ha0 ha1
  obtain ⟨B0, B1, B2⟩ := M_range n b hn hb0 hb1
  have hu : IntKind.u64.wrap n = n := by rw [Pl.wrap_u64]; omega
  have hn0 : ¬ n = 0 := by omega
  have gs : spec_l3Bits.f n = some true := by unfold spec_l3Bits.f; rcases hn with rfl | rfl <;> rfl
  have gi : impl_goodBits.f n = some true := by unfold impl_goodBits.f; rcases hn with rfl | rfl <;> rfl
  have lo : ¬ op < 1 := by omega
  have hi : decide (op > 21) = false := decide_eq_false (by omega)
  unfold spec_Binary.f impl_Binary.f spec_l3Binary.f
  simp only [gs, gi, Option.bind_some, if_true, mask_told, signed_told, hu, if_neg hn0, if_neg lo, hi, impl_Binary.j0, Bool.false_eq_true, if_false, cut_told]
  generalize M n a = A at *
  generalize M n b = B at *
  have eby : Int.tmod B n = B % n := Int.tmod_eq_emod_of_nonneg B0
  have by0 : 0 ≤ B % n := Int.emod_nonneg _ hn0
  have by1 : B % n < n := Int.emod_lt_of_pos _ (by omega)
  rw [eby, Pl.w64 (by omega) (by omega)]
  generalize B % n = m at *
  have hnm : IntKind.u64.wrap (n - m) = n - m := by rw [Pl.wrap_u64]; omega
  have hnm0 : 0 ≤ n - m := by omega
  obtain ⟨rl, rr⟩ := rotl_told n A m hn A0 A1 by0 by1
  have hMA : M n (shr .u64 A m) = shr .u64 A m := by
    have e : shr .u64 A m = A / 2 ^ m.toNat := by rw [show m = ((m.toNat : Nat) : Int) by omega, Pl.shr_at .u64 A m.toNat (show m.toNat ≤ 64 by omega), Int.toNat_natCast]
    have h1 : 0 ≤ A / 2 ^ m.toNat := Int.ediv_nonneg A0 (Int.le_of_lt (Int.pow_pos (by decide)))
    have h2 : A / 2 ^ m.toNat ≤ A := Int.ediv_le_self _ A0
    rw [e]; unfold M
    split
    · rename_i h; have := lt32 A1 h; omega
    · rfl
  obtain rfl | rfl | rfl | rfl | rfl | rfl | rfl | rfl | rfl | rfl | rfl | rfl | rfl | rfl | rfl | rfl | rfl | rfl | rfl | rfl | rfl : op = 1 ∨ op = 2 ∨ op = 3 ∨ op = 4 ∨ op = 5 ∨ op = 6 ∨ op = 7 ∨ op = 8 ∨ op = 9 ∨ op = 10 ∨ op = 11 ∨ op = 12 ∨ op = 13 ∨ op = 14 ∨ op = 15 ∨ op = 16 ∨ op = 17 ∨ op = 18 ∨ op = 19 ∨ op = 20 ∨ op = 21 := by omega
  case inr.inr.inr.inl => 
    obtain ⟨r, e1, e2⟩ := divide_told n 4 A B hn (by decide) A0 A1 B0 B1
    exact ⟨r, fun k => by simp [spec_l3Binary.j0, impl_Binary.j1, e1, e2]⟩
  case inr.inr.inr.inr.inl => 
    obtain ⟨r, e1, e2⟩ := divide_told n 5 A B hn (by decide) A0 A1 B0 B1
    exact ⟨r, fun k => by simp [spec_l3Binary.j0, impl_Binary.j1, e1, e2]⟩
  case inr.inr.inr.inr.inr.inl => 
    obtain ⟨r, e1, e2⟩ := divide_told n 6 A B hn (by decide) A0 A1 B0 B1
    exact ⟨r, fun k => by simp [spec_l3Binary.j0, impl_Binary.j1, e1, e2]⟩
  case inr.inr.inr.inr.inr.inr.inl => 
    obtain ⟨r, e1, e2⟩ := divide_told n 7 A B hn (by decide) A0 A1 B0 B1
    exact ⟨r, fun k => by simp [spec_l3Binary.j0, impl_Binary.j1, e1, e2]⟩
  all_goals simp only [Int.reduceEq, if_true, if_false, show ((7 : Int) == 7) = true from rfl, show ((1 : Int) == 7) = false from rfl, show ((2 : Int) == 7) = false from rfl, show ((3 : Int) == 7) = false from rfl, show ((8 : Int) == 7) = false from rfl, show ((9 : Int) == 7) = false from rfl, show ((10 : Int) == 7) = false from rfl, show ((11 : Int) == 7) = false from rfl, show ((12 : Int) == 7) = false from rfl, show ((13 : Int) == 7) = false from rfl, show ((14 : Int) == 7) = false from rfl, show ((15 : Int) == 7) = false from rfl, show ((16 : Int) == 7) = false from rfl, show ((17 : Int) == 7) = false from rfl, show ((18 : Int) == 7) = false from rfl, show ((19 : Int) == 7) = false from rfl, show ((20 : Int) == 7) = false from rfl, show ((21 : Int) == 7) = false from rfl, spec_l3Binary.j0, impl_Binary.j1, Bool.false_eq_true, mask_told, cut_told, signed_told', Option.bind_some, hu, hnm, if_pos by0, if_pos hnm0, rl, rr, impl_compare.f, yes_told, truth_told, yes_mask, hMA, M_bits n .and (by simp) A B A0 (lt32 A1) B0 (lt32 B1), M_bits n .or (by simp) A B A0 (lt32 A1) B0 (lt32 B1), M_bits n .xor (by simp) A B A0 (lt32 A1) B0 (lt32 B1)]
  all_goals exact ⟨_, fun k => ⟨rfl, rfl⟩⟩
theorem FnExactBinary : laws_FnExactBinary.Pure := by
  intro n op a b _ _ ha hb
  obtain ⟨a0, a1⟩ := Pl.wf_u64 ha
  obtain ⟨b0, b1⟩ := Pl.wf_u64 hb
  have fin : ∀ (r : Int × Int), (spec_Binary.f 4 n op a b = some r ∧ impl_Binary.f 4 n op a b = some r) → ∃ k, laws_FnExactBinary.f k n op a b = some true := by
    intro r ⟨e1, e2⟩
    exact ⟨4, by unfold laws_FnExactBinary.f; rw [e1, e2]; simp⟩
  by_cases hn : n = 32 ∨ n = 64
  · by_cases ho : 1 ≤ op ∧ op ≤ 21
    · obtain ⟨r, hr⟩ := bin_told n op a b hn ho a0 a1 b0 b1
      exact fin r (hr 0)
    · refine fin (0, 3) ?_
      have hu : IntKind.u64.wrap n = n := by rw [Pl.wrap_u64]; omega
      have hn0 : ¬ n = 0 := by omega
      have gs : spec_l3Bits.f n = some true := by unfold spec_l3Bits.f; rcases hn with rfl | rfl <;> rfl
      have gi : impl_goodBits.f n = some true := by unfold impl_goodBits.f; rcases hn with rfl | rfl <;> rfl
      have hne : ∀ c : Int, 1 ≤ c → c ≤ 21 → ¬ op = c := fun c h0 h1 => by omega
      constructor
      · unfold spec_Binary.f spec_l3Binary.f
        simp only [gs, Option.bind_some, if_true, mask_told, signed_told, hu, if_neg hn0]
        rw [if_neg (hne 1 (by decide) (by decide)), if_neg (hne 2 (by decide) (by decide)), if_neg (hne 3 (by decide) (by decide)), if_neg (hne 4 (by decide) (by decide)), if_neg (hne 5 (by decide) (by decide)), if_neg (hne 6 (by decide) (by decide)), show (op == 7) = false from beq_eq_false_iff_ne.2 (hne 7 (by decide) (by decide))]
        simp only [spec_l3Binary.j0, Bool.false_eq_true, if_false]
        rw [if_neg (hne 8 (by decide) (by decide)), if_neg (hne 9 (by decide) (by decide)), if_neg (hne 10 (by decide) (by decide)), if_neg (hne 11 (by decide) (by decide)), if_neg (hne 13 (by decide) (by decide)), if_neg (hne 12 (by decide) (by decide)), if_neg (hne 14 (by decide) (by decide)), if_neg (hne 15 (by decide) (by decide)), if_neg (hne 16 (by decide) (by decide)), if_neg (hne 17 (by decide) (by decide)), if_neg (hne 18 (by decide) (by decide)), if_neg (hne 19 (by decide) (by decide)), if_neg (hne 20 (by decide) (by decide)), if_neg (hne 21 (by decide) (by decide))]
        rfl
      · unfold impl_Binary.f
        simp only [gi, Option.bind_some, if_true]
        by_cases h1 : op < 1
        · rw [if_pos h1]; simp [impl_Binary.j0]
        · rw [if_neg h1, decide_eq_true (by omega)]; simp [impl_Binary.j0]
  · refine fin (0, 3) ?_
    have gs : spec_l3Bits.f n = some false := by unfold spec_l3Bits.f; rw [if_neg (by omega)]; simp; omega
    have gi : impl_goodBits.f n = some false := by unfold impl_goodBits.f; rw [if_neg (by omega)]; simp; omega
    constructor
    · unfold spec_Binary.f; simp [gs]
    · unfold impl_Binary.f; simp [gi, impl_Binary.j0]

end Go.Proofs.Ytfncjcnlndoelaa.Pure
