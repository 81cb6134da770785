/- FMin: walks of our own of the reference's functions, of the program's and of the statement's; no condition beside a number's range. -/
import Derived.Test.YtfmmmfddpfddoaaOwnFloat
import Derived.Test.YtfmmmfddpfddoaaPnoNumberx
import Derived.Test.YtfmmmfddpfddoaaPorderx
import Derived.Test.YtfmmmfddpfddoaaPmaskx
import Derived.Test.YtfmmmfddpfddoaaPopenx
import Derived.Deep.QuietTactic
import Derived.BigQuiet
import Derived.BigRegion
import Derived.RegionTactic
import Derived.ChangeAlike
namespace Go.Proofs.Ytfmmmfddpfddoaa.OwnFMin
open Go Go.RowKit Go.Proofs.YtfmmmfddpfddoaaW.PrintWords Go.Proofs.YtfmmmfddpfddoaaW.PrintLast Go.Proofs.YtfmmmfddpfddoaaW.PrintMore Go.Proofs.Ytfmmmfddpfddoaa.OwnFloat
set_option linter.unusedVariables false
set_option linter.unusedSimpArgs false
theorem nan16 (w : World) : Calls Try.prog 45 #[.agg #[.int .u64 5, .int .u64 10]] w fun e w' => e = .returned (.int .u32 32256) ∧ Below w.heap.size w w' := by
  go_enter Try.func45, Try.ntmps45
  go_wp2
  go_ret
  exact ⟨rfl, (Below.refl _ _).alloc (Nat.le_refl _) _⟩
theorem nan32 (w : World) : Calls Try.prog 45 #[.agg #[.int .u64 8, .int .u64 23]] w fun e w' => e = .returned (.int .u32 2143289344) ∧ Below w.heap.size w w' := by
  go_enter Try.func45, Try.ntmps45
  go_wp2
  go_ret
  exact ⟨rfl, (Below.refl _ _).alloc (Nat.le_refl _) _⟩

/-! ### The reference's order and comparison -/
def cmpM (na nb : Bool) (x y : Int) : Int := if na || nb then 2 else if x < y then -1 else if y < x then 1 else 0
theorem reti {k : IntKind} {a b : Int} (h : a = b) : Ending.returned (.int k a) = .returned (.int k b) := by rw [h]
def ord16 (a : Int) : Int := if a / 32768 % 2 = 1 then -(a % 32768) else a % 32768
theorem order16 (a : Int) (ha0 : 0 ≤ a) (ha1 : a < 4294967296) (w : World) : Calls Try.prog 84 #[.agg #[.int .u64 5, .int .u64 10], .int .u32 a] w fun e w' => e = .returned (.int .i64 (ord16 a)) ∧ Below w.heap.size w w' := by
  have eA : bits .and .u32 a 65535 = a % 65536 := and_low .u32 16 (by decide) a _ (by decide)
  have eN : bits .and .u32 (a % 65536) 32767 = a % 32768 := by rw [and_low .u32 15 (by decide) _ _ (by decide)]; omega
  have eS : a % 65536 / 32768 = a / 32768 % 2 := by omega
  have hm : 0 ≤ a % 65536 ∧ a % 65536 < 65536 := by omega
  have hn : 0 ≤ a % 32768 ∧ a % 32768 < 32768 := by omega
  generalize a % 65536 = A at *
  obtain ⟨h0, h1⟩ := hm
  obtain ⟨n0, n1⟩ := hn
  unfold ord16
  by_cases hs : a / 32768 % 2 = 1
  · rw [if_pos hs]
    rw [hs] at eS
    generalize a % 32768 = n at *
    clear hs
    go_enter Try.func84, Try.ntmps84
    go_wp2_with (go_at_call 46; refine (mask16 _).mono ?_; rintro e w1 ⟨rfl, hb⟩; obtain ⟨hc, hf⟩ := bcell hb; have hz : w.heap.size < w1.heap.size := (by have := hb.size; simp at this; omega))
    go_ret
    exact ⟨reti (by first | rfl | omega), by with_reducible exact below_step (below_alloc (Below.refl _ _) _) hb⟩
  · rw [if_neg hs]
    have e2 : (A / 32768 == 1) = false := beq_eq_false_iff_ne.2 (by omega)
    generalize a % 32768 = n at *
    clear hs eS
    go_enter Try.func84, Try.ntmps84
    go_wp2_with (go_at_call 46; refine (mask16 _).mono ?_; rintro e w1 ⟨rfl, hb⟩; obtain ⟨hc, hf⟩ := bcell hb; have hz : w.heap.size < w1.heap.size := (by have := hb.size; simp at this; omega))
    go_ret
    exact ⟨reti (by first | rfl | omega), by with_reducible exact below_step (below_alloc (Below.refl _ _) _) hb⟩
set_option maxRecDepth 100000 in
set_option maxHeartbeats 4000000 in
theorem compare16 (a b : Int) (ha0 : 0 ≤ a) (ha1 : a < 4294967296) (hb0 : 0 ≤ b) (hb1 : b < 4294967296) (w : World) : Calls Try.prog 44 #[.agg #[.int .u64 5, .int .u64 10], .int .u32 a, .int .u32 b] w fun e w' => e = .returned (.int .i64 (cmpM (op16 a).nan (op16 b).nan (ord16 a) (ord16 b))) ∧ Below w.heap.size w w' := by
  have ca := fun w => open16 a ha0 ha1 w
  have cb := fun w => open16 b hb0 hb1 w
  have oa := fun w => order16 a ha0 ha1 w
  have ob := fun w => order16 b hb0 hb1 w
  generalize op16 a = f at *
  generalize op16 b = g at *
  generalize ord16 a = x at *
  generalize ord16 b = y at *
  obtain ⟨neg, inf, nan, m, e⟩ := f
  obtain ⟨neg', inf', nan', m', e'⟩ := g
  simp only [FP.val] at ca cb
  clear ha0 ha1 hb0 hb1
  have hfa : ∀ w : World, (Instr.field 114 (.agg #[.bool neg, .bool inf, .bool nan, .int .u64 m, .int .i64 e]) 2).run Try.prog w = .ok (.bool nan) w := fun _ => by kernel_rfl
  have hfb : ∀ w : World, (Instr.field 114 (.agg #[.bool neg', .bool inf', .bool nan', .int .u64 m', .int .i64 e']) 2).run Try.prog w = .ok (.bool nan') w := fun _ => by kernel_rfl
  cases nan <;> cases nan'
  all_goals
    go_enter Try.func44, Try.ntmps44
    go_wp2_with (first
      | (go_at_call 83; ((with_reducible refine (ca _).mono ?_); rintro e w1 ⟨rfl, hb1⟩; obtain ⟨hc1, hf1⟩ := bcell hb1; have hz1 : w.heap.size < w1.heap.size := (by have := hb1.size; simp at this; omega)))
      | (go_at_call 83; ((with_reducible refine (cb _).mono ?_); rintro e w2 ⟨rfl, hb2⟩; obtain ⟨hc2, hf2⟩ := bcell hb2; have hz3 : w.heap.size < w2.heap.size := (by have := hb2.size; omega)))
      | (go_at_call 84; ((with_reducible refine (oa _).mono ?_); rintro e w3 ⟨rfl, hb3⟩; obtain ⟨hc3, hf3⟩ := bcell hb3; have hz5 : w.heap.size < w3.heap.size := (by have := hb3.size; omega)))
      | (go_at_call 84; ((with_reducible refine (ob _).mono ?_); rintro e w4 ⟨rfl, hb4⟩)))
    all_goals go_ret
    all_goals refine ⟨reti (by unfold cmpM; first | rfl | (simp only [Bool.or_self, Bool.or_true, Bool.true_or, Bool.false_eq_true, if_false, if_true]; first | rfl | (repeat (first | rw [if_pos (by omega)] | rw [if_neg (by omega)])))), ?_⟩
    all_goals repeat (first | (with_reducible exact below_alloc (Below.refl _ _) _) | (with_reducible refine below_step ?_ hb4) | (with_reducible refine below_step ?_ hb3) | (with_reducible refine below_step ?_ hb2) | (with_reducible refine below_step ?_ hb1))

def ord32 (a : Int) : Int := if a / 2147483648 % 2 = 1 then -(a % 2147483648) else a % 2147483648
theorem order32 (a : Int) (ha0 : 0 ≤ a) (ha1 : a < 4294967296) (w : World) : Calls Try.prog 84 #[.agg #[.int .u64 8, .int .u64 23], .int .u32 a] w fun e w' => e = .returned (.int .i64 (ord32 a)) ∧ Below w.heap.size w w' := by
  have eA : bits .and .u32 a 4294967295 = a % 4294967296 := by rw [Pl.bits_and_nat, Int.emod_eq_of_lt ha0 (by simpa [IntKind.bits] using ha1), show (((4294967295 : Int) % 2 ^ IntKind.u32.bits).toNat) = 2 ^ 32 - 1 by decide, Nat.and_two_pow_sub_one_eq_mod, IntKind.wrap_u32]; omega
  have eN : bits .and .u32 (a % 4294967296) 2147483647 = a % 2147483648 := by rw [and_low .u32 31 (by decide) _ _ (by decide)]; omega
  have eS : a % 4294967296 / 2147483648 = a / 2147483648 % 2 := by omega
  have hm : 0 ≤ a % 4294967296 ∧ a % 4294967296 < 4294967296 := by omega
  have hn : 0 ≤ a % 2147483648 ∧ a % 2147483648 < 2147483648 := by omega
  generalize a % 4294967296 = A at *
  obtain ⟨h0, h1⟩ := hm
  obtain ⟨n0, n1⟩ := hn
  unfold ord32
  by_cases hs : a / 2147483648 % 2 = 1
  · rw [if_pos hs]
    rw [hs] at eS
    generalize a % 2147483648 = n at *
    clear hs
    go_enter Try.func84, Try.ntmps84
    go_wp2_with (go_at_call 46; refine (mask32 _).mono ?_; rintro e w1 ⟨rfl, hb⟩; obtain ⟨hc, hf⟩ := bcell hb; have hz : w.heap.size < w1.heap.size := (by have := hb.size; simp at this; omega))
    go_ret
    exact ⟨reti (by first | rfl | omega), by with_reducible exact below_step (below_alloc (Below.refl _ _) _) hb⟩
  · rw [if_neg hs]
    have e2 : (A / 2147483648 == 1) = false := beq_eq_false_iff_ne.2 (by omega)
    generalize a % 2147483648 = n at *
    clear hs eS
    go_enter Try.func84, Try.ntmps84
    go_wp2_with (go_at_call 46; refine (mask32 _).mono ?_; rintro e w1 ⟨rfl, hb⟩; obtain ⟨hc, hf⟩ := bcell hb; have hz : w.heap.size < w1.heap.size := (by have := hb.size; simp at this; omega))
    go_ret
    exact ⟨reti (by first | rfl | omega), by with_reducible exact below_step (below_alloc (Below.refl _ _) _) hb⟩
set_option maxRecDepth 100000 in
set_option maxHeartbeats 4000000 in
theorem compare32 (a b : Int) (ha0 : 0 ≤ a) (ha1 : a < 4294967296) (hb0 : 0 ≤ b) (hb1 : b < 4294967296) (w : World) : Calls Try.prog 44 #[.agg #[.int .u64 8, .int .u64 23], .int .u32 a, .int .u32 b] w fun e w' => e = .returned (.int .i64 (cmpM (op32 a).nan (op32 b).nan (ord32 a) (ord32 b))) ∧ Below w.heap.size w w' := by
  have ca := fun w => open32 a ha0 ha1 w
  have cb := fun w => open32 b hb0 hb1 w
  have oa := fun w => order32 a ha0 ha1 w
  have ob := fun w => order32 b hb0 hb1 w
  generalize op32 a = f at *
  generalize op32 b = g at *
  generalize ord32 a = x at *
  generalize ord32 b = y at *
  obtain ⟨neg, inf, nan, m, e⟩ := f
  obtain ⟨neg', inf', nan', m', e'⟩ := g
  simp only [FP.val] at ca cb
  clear ha0 ha1 hb0 hb1
  have hfa : ∀ w : World, (Instr.field 114 (.agg #[.bool neg, .bool inf, .bool nan, .int .u64 m, .int .i64 e]) 2).run Try.prog w = .ok (.bool nan) w := fun _ => by kernel_rfl
  have hfb : ∀ w : World, (Instr.field 114 (.agg #[.bool neg', .bool inf', .bool nan', .int .u64 m', .int .i64 e']) 2).run Try.prog w = .ok (.bool nan') w := fun _ => by kernel_rfl
  cases nan <;> cases nan'
  all_goals
    go_enter Try.func44, Try.ntmps44
    go_wp2_with (first
      | (go_at_call 83; ((with_reducible refine (ca _).mono ?_); rintro e w1 ⟨rfl, hb1⟩; obtain ⟨hc1, hf1⟩ := bcell hb1; have hz1 : w.heap.size < w1.heap.size := (by have := hb1.size; simp at this; omega)))
      | (go_at_call 83; ((with_reducible refine (cb _).mono ?_); rintro e w2 ⟨rfl, hb2⟩; obtain ⟨hc2, hf2⟩ := bcell hb2; have hz3 : w.heap.size < w2.heap.size := (by have := hb2.size; omega)))
      | (go_at_call 84; ((with_reducible refine (oa _).mono ?_); rintro e w3 ⟨rfl, hb3⟩; obtain ⟨hc3, hf3⟩ := bcell hb3; have hz5 : w.heap.size < w3.heap.size := (by have := hb3.size; omega)))
      | (go_at_call 84; ((with_reducible refine (ob _).mono ?_); rintro e w4 ⟨rfl, hb4⟩)))
    all_goals go_ret
    all_goals refine ⟨reti (by unfold cmpM; first | rfl | (simp only [Bool.or_self, Bool.or_true, Bool.true_or, Bool.false_eq_true, if_false, if_true]; first | rfl | (repeat (first | rw [if_pos (by omega)] | rw [if_neg (by omega)])))), ?_⟩
    all_goals repeat (first | (with_reducible exact below_alloc (Below.refl _ _) _) | (with_reducible refine below_step ?_ hb4) | (with_reducible refine below_step ?_ hb3) | (with_reducible refine below_step ?_ hb2) | (with_reducible refine below_step ?_ hb1))

theorem nat_and_bit (b i : Nat) : b &&& 2 ^ i = if b / 2 ^ i % 2 = 1 then 2 ^ i else 0 := by
  apply Nat.eq_of_testBit_eq
  intro j
  rw [Nat.testBit_and, Nat.testBit_two_pow]
  by_cases hj : i = j
  · subst hj
    by_cases h : b / 2 ^ i % 2 = 1
    · rw [if_pos h, Nat.testBit_two_pow_self, Nat.testBit_eq_decide_div_mod_eq, decide_eq_true h]; simp
    · rw [if_neg h, Nat.testBit_eq_decide_div_mod_eq, decide_eq_false h]; simp
  · by_cases h : b / 2 ^ i % 2 = 1
    · rw [if_pos h, Nat.testBit_two_pow_of_ne hj]; simp [hj]
    · rw [if_neg h]; simp [hj]
theorem and_bit (i : Nat) (N : Nat) (hN : N = 2 ^ i) (hi : N < 4294967296) (a : Int) (ha0 : 0 ≤ a) (ha1 : a < 4294967296) : (bits .and .u32 a (N : Int) != 0) = (a / (N : Int) % 2 == 1) := by
  obtain ⟨b, rfl⟩ := Int.eq_ofNat_of_zero_le ha0
  have e1 : ∀ z : Nat, z < 4294967296 → (((z : Nat) : Int) % 2 ^ IntKind.u32.bits).toNat = z := by
    intro z hz; simp only [IntKind.bits]; omega
  have h3 := nat_and_bit b i
  rw [← hN] at h3
  rw [Pl.bits_and_nat, e1 b (by omega), e1 N hi, IntKind.wrap_u32, h3]
  have e4 : ((b : Nat) : Int) / (N : Int) % 2 = ((b / N % 2 : Nat) : Int) := by simp
  have hp : 0 < N := by rw [hN]; exact Nat.two_pow_pos i
  rw [e4]
  by_cases h : b / N % 2 = 1
  · rw [if_pos h, h, Int.emod_eq_of_lt (by omega) (by omega)]
    have hne : (N : Int) ≠ 0 := by omega
    rw [bne_iff_ne.2 hne]; rfl
  · rw [if_neg h, show b / N % 2 = 0 by omega]; rfl
namespace FI
open Go.Proofs.Ytfmmmfddpfddoaa.Popen
theorem impl_top16 : impl_format_top.f 10 15 = some 31 := by decide +kernel
theorem impl_top32 : impl_format_top.f 23 127 = some 255 := by decide +kernel
theorem impl_sign16 : impl_format_sign.f 10 15 = some 32768 := by decide +kernel
theorem impl_sign32 : impl_format_sign.f 23 127 = some 2147483648 := by decide +kernel
theorem u64_id (x : Int) (h0 : 0 ≤ x) (h1 : x < 4294967296) : IntKind.u64.wrap x = x := by rw [Pl.wrap_u64]; omega
theorem impl_open16 (a : Int) (ha0 : 0 ≤ a) (ha1 : a < 4294967296) : impl_format_open.f 10 15 a = some ((op16 a).neg, (op16 a).nan, (op16 a).inf, (op16 a).m, (op16 a).e) := by
  have eN : (bits .and .u32 a 32768 != 0) = (a / 32768 % 2 == 1) := and_bit 15 32768 (by decide) (by decide) a ha0 ha1
  have eS : shr .u32 a 10 = a / 1024 := Pl.shr_at .u32 a 10 (by decide)
  have eX : bits .and .u32 (a / 1024) 31 = a / 1024 % 32 := and_low .u32 5 (by decide) _ _ (by decide)
  have eF : bits .and .u32 a 1023 = a % 1024 := and_low .u32 10 (by decide) _ _ (by decide)
  have c1 : (shl .u32 1 10 - 1) % 4294967296 = 1023 := by decide +kernel
  have c2 : shl .u64 1 10 = 1024 := by decide +kernel
  have c3 : wrap64 (wrap64 (1 - 15) - 10) = -24 := by decide +kernel
  unfold impl_format_open.f op16
  simp only [if_pos (show (0 : Int) ≤ 10 by decide), impl_top16, impl_sign16, Option.bind_some, eS, eX, eF, eN, c1, c2, c3, u64_id (a % 1024) (by omega) (by omega)]
  by_cases h1 : a / 1024 % 32 = 31
  · simp only [if_pos h1]
  · by_cases h2 : a / 1024 % 32 = 0
    · simp only [if_neg h1, if_pos h2]
    · have c4 : wrap64 (wrap64 (wrap64 (a / 1024 % 32) - 15) - 10) = -24 + a / 1024 % 32 - 1 := by unfold wrap64; omega
      simp only [if_neg h1, if_neg h2, c4, u64_id (a % 1024 + 1024) (by omega) (by omega)]
theorem impl_open32 (a : Int) (ha0 : 0 ≤ a) (ha1 : a < 4294967296) : impl_format_open.f 23 127 a = some ((op32 a).neg, (op32 a).nan, (op32 a).inf, (op32 a).m, (op32 a).e) := by
  have eN : (bits .and .u32 a 2147483648 != 0) = (a / 2147483648 % 2 == 1) := and_bit 31 2147483648 (by decide) (by decide) a ha0 ha1
  have eS : shr .u32 a 23 = a / 8388608 := Pl.shr_at .u32 a 23 (by decide)
  have eX : bits .and .u32 (a / 8388608) 255 = a / 8388608 % 256 := and_low .u32 8 (by decide) _ _ (by decide)
  have eF : bits .and .u32 a 8388607 = a % 8388608 := and_low .u32 23 (by decide) _ _ (by decide)
  have c1 : (shl .u32 1 23 - 1) % 4294967296 = 8388607 := by decide +kernel
  have c2 : shl .u64 1 23 = 8388608 := by decide +kernel
  have c3 : wrap64 (wrap64 (1 - 127) - 23) = -149 := by decide +kernel
  unfold impl_format_open.f op32
  simp only [if_pos (show (0 : Int) ≤ 23 by decide), impl_top32, impl_sign32, Option.bind_some, eS, eX, eF, eN, c1, c2, c3, u64_id (a % 8388608) (by omega) (by omega)]
  by_cases h1 : a / 8388608 % 256 = 255
  · simp only [if_pos h1]
  · by_cases h2 : a / 8388608 % 256 = 0
    · simp only [if_neg h1, if_pos h2]
    · have c4 : wrap64 (wrap64 (wrap64 (a / 8388608 % 256) - 127) - 23) = -149 + a / 8388608 % 256 - 1 := by unfold wrap64; omega
      simp only [if_neg h1, if_neg h2, c4, u64_id (a % 8388608 + 8388608) (by omega) (by omega)]
end FI
namespace FO
open Go.Proofs.Ytfmmmfddpfddoaa.Porder
theorem impl_sign16 : impl_format_sign.f 10 15 = some 32768 := by decide +kernel
theorem impl_sign32 : impl_format_sign.f 23 127 = some 2147483648 := by decide +kernel
theorem impl_order16 (a : Int) (ha0 : 0 ≤ a) (ha1 : a < 4294967296) : impl_format_order.f 10 15 a = some (if a / 32768 % 2 = 1 then -(a % 32768) - 1 else a % 32768) := by
  have eN : (bits .and .u32 a 32768 != 0) = (a / 32768 % 2 == 1) := and_bit 15 32768 (by decide) (by decide) a ha0 ha1
  have eM : bits .and .u32 a 32767 = a % 32768 := and_low .u32 15 (by decide) _ _ (by decide)
  unfold impl_format_order.f
  simp only [impl_sign16, Option.bind_some, show ((32768 : Int) - 1) % 4294967296 = 32767 by decide, eM]
  have w1 : wrap64 (a % 32768) = a % 32768 := Pl.w64 (by omega) (by omega)
  have w2 : wrap64 (-(a % 32768)) = -(a % 32768) := Pl.w64 (by omega) (by omega)
  have w3 : wrap64 (-(a % 32768) - 1) = -(a % 32768) - 1 := Pl.w64 (by omega) (by omega)
  rw [w1, w2, w3]
  by_cases h : a / 32768 % 2 = 1
  · have : ¬ bits .and .u32 a 32768 = 0 := by
      rw [h] at eN; exact bne_iff_ne.1 eN
    rw [if_neg this, if_pos h]
  · have : bits .and .u32 a 32768 = 0 := by
      rw [beq_eq_false_iff_ne.2 h] at eN; exact bne_eq_false_iff_eq.1 eN
    rw [if_pos this, if_neg h]
theorem impl_order32 (a : Int) (ha0 : 0 ≤ a) (ha1 : a < 4294967296) : impl_format_order.f 23 127 a = some (if a / 2147483648 % 2 = 1 then -(a % 2147483648) - 1 else a % 2147483648) := by
  have eN : (bits .and .u32 a 2147483648 != 0) = (a / 2147483648 % 2 == 1) := and_bit 31 2147483648 (by decide) (by decide) a ha0 ha1
  have eM : bits .and .u32 a 2147483647 = a % 2147483648 := and_low .u32 31 (by decide) _ _ (by decide)
  unfold impl_format_order.f
  simp only [impl_sign32, Option.bind_some, show ((2147483648 : Int) - 1) % 4294967296 = 2147483647 by decide, eM]
  have w1 : wrap64 (a % 2147483648) = a % 2147483648 := Pl.w64 (by omega) (by omega)
  have w2 : wrap64 (-(a % 2147483648)) = -(a % 2147483648) := Pl.w64 (by omega) (by omega)
  have w3 : wrap64 (-(a % 2147483648) - 1) = -(a % 2147483648) - 1 := Pl.w64 (by omega) (by omega)
  rw [w1, w2, w3]
  by_cases h : a / 2147483648 % 2 = 1
  · have : ¬ bits .and .u32 a 2147483648 = 0 := by
      rw [h] at eN; exact bne_iff_ne.1 eN
    rw [if_neg this, if_pos h]
  · have : bits .and .u32 a 2147483648 = 0 := by
      rw [beq_eq_false_iff_ne.2 h] at eN; exact bne_eq_false_iff_eq.1 eN
    rw [if_pos this, if_neg h]
end FO

/-! ### The smaller one -/
theorem bits_or_mod (n : Nat) (hn : n ≤ 32) (a b : Int) (ha0 : 0 ≤ a) (ha1 : a < 4294967296) (hb0 : 0 ≤ b) (hb1 : b < 4294967296) : bits .or .u32 a b % 2 ^ n = bits .or .u32 (a % 2 ^ n) (b % 2 ^ n) := by
  obtain ⟨x, rfl⟩ := Int.eq_ofNat_of_zero_le ha0
  obtain ⟨y, rfl⟩ := Int.eq_ofNat_of_zero_le hb0
  have e1 : ∀ z : Nat, z < 4294967296 → (((z : Nat) : Int) % 2 ^ IntKind.u32.bits).toNat = z := by
    intro z hz; simp only [IntKind.bits]; omega
  have l1 : x ||| y < 2 ^ 32 := Nat.or_lt_two_pow (by omega) (by omega)
  have m1 : ∀ z : Nat, z < 4294967296 → z % 2 ^ n < 4294967296 := fun z hz => Nat.lt_of_le_of_lt (Nat.mod_le _ _) hz
  have l2 : x % 2 ^ n ||| y % 2 ^ n < 2 ^ 32 := Nat.or_lt_two_pow (m1 x (by omega)) (m1 y (by omega))
  have c : ∀ z : Nat, ((z : Int) % 2 ^ n) = ((z % 2 ^ n : Nat) : Int) := fun z => by rw [← Pl.pow_int]; simp
  rw [Pl.bits_or_nat, e1 x (by omega), e1 y (by omega), c x, c y, Pl.bits_or_nat, e1 _ (m1 x (by omega)), e1 _ (m1 y (by omega)), IntKind.wrap_u32, IntKind.wrap_u32, show (((x ||| y : Nat) : Int) % 4294967296) = ((x ||| y : Nat) : Int) by omega, show (((x % 2 ^ n ||| y % 2 ^ n : Nat) : Int) % 4294967296) = ((x % 2 ^ n ||| y % 2 ^ n : Nat) : Int) by omega, c, Nat.or_mod_two_pow]
theorem or_self32 (a : Int) (h0 : 0 ≤ a) (h1 : a < 4294967296) : bits .or .u32 a a = a := by
  obtain ⟨x, rfl⟩ := Int.eq_ofNat_of_zero_le h0
  have e1 : (((x : Nat) : Int) % 2 ^ IntKind.u32.bits).toNat = x := by simp only [IntKind.bits]; omega
  rw [Pl.bits_or_nat, e1, Nat.or_self, IntKind.wrap_u32]; omega
theorem or_zero32 (a : Int) (h0 : 0 ≤ a) (h1 : a < 4294967296) : bits .or .u32 a 0 = a ∧ bits .or .u32 0 a = a := by
  obtain ⟨x, rfl⟩ := Int.eq_ofNat_of_zero_le h0
  have e1 : (((x : Nat) : Int) % 2 ^ IntKind.u32.bits).toNat = x := by simp only [IntKind.bits]; omega
  have e0 : (((0 : Int)) % 2 ^ IntKind.u32.bits).toNat = 0 := by decide
  constructor
  · rw [Pl.bits_or_nat, e1, e0, Nat.or_zero, IntKind.wrap_u32]; omega
  · rw [Pl.bits_or_nat, e1, e0, Nat.zero_or, IntKind.wrap_u32]; omega
theorem cmp_cases (na nb : Bool) (x y : Int) : (cmpM na nb x y = 2 ∧ (na || nb) = true) ∨ (cmpM na nb x y = -1 ∧ (na || nb) = false ∧ x < y) ∨ (cmpM na nb x y = 1 ∧ (na || nb) = false ∧ y < x) ∨ (cmpM na nb x y = 0 ∧ (na || nb) = false ∧ x = y) := by
  unfold cmpM
  cases h : (na || nb) with
  | true => simp
  | false =>
    by_cases h1 : x < y
    · simp [h1]
    · by_cases h2 : y < x
      · simp [h1, h2]
      · simp [h1, h2]; omega

/-! #### kind 16 -/
/-- What both make of two floats. -/
def minM16 (a b : Int) : Int := if (op16 a).nan || (op16 b).nan then 32256 else if (if b / 32768 % 2 = 1 then -(b % 32768) - 1 else b % 32768) < (if a / 32768 % 2 = 1 then -(a % 32768) - 1 else a % 32768) then b % 65536 else a % 65536
set_option maxHeartbeats 1000000 in
theorem specM16 (a b : Int) (ha0 : 0 ≤ a) (ha1 : a < 4294967296) (hb0 : 0 ≤ b) (hb1 : b < 4294967296) (w : World) : Calls Try.prog 13 #[.int .i64 16, .int .u32 a, .int .u32 b] w fun e w' => e = .returned (.int .u32 (minM16 a b)) ∧ Below w.heap.size w w' := by
  have c := fun w => compare16 a b ha0 ha1 hb0 hb1 w
  have hor : 0 ≤ bits .or .u32 a b ∧ bits .or .u32 a b < 4294967296 := by rw [Pl.bits_or_nat, IntKind.wrap_u32]; omega
  have eA : bits .and .u32 a 65535 = a % 65536 := and_low .u32 16 (by decide) a _ (by decide)
  have eB : bits .and .u32 b 65535 = b % 65536 := and_low .u32 16 (by decide) b _ (by decide)
  have eO : bits .and .u32 (bits .or .u32 a b) 65535 = bits .or .u32 a b % 65536 := and_low .u32 16 (by decide) (bits .or .u32 a b) _ (by decide)
  have eO2 : bits .or .u32 a b % 65536 = bits .or .u32 (a % 65536) (b % 65536) := bits_or_mod 16 (by decide) a b ha0 ha1 hb0 hb1
  rcases cmp_cases (op16 a).nan (op16 b).nan (ord16 a) (ord16 b) with ⟨hc, hn⟩ | ⟨hc, hn, hl⟩ | ⟨hc, hn, hl⟩ | ⟨hc, hn, hl⟩
  all_goals
    rw [hc] at c
    clear hc
  · have hr : minM16 a b = 32256 := by unfold minM16; rw [hn]; rfl
    rw [hr]
    clear hr hn eA eB eO eO2 hor ha0 ha1 hb0 hb1
    go_enter Try.func13, Try.ntmps13
    go_wp2_with (first | (go_at_call 43; refine (kind16 _).mono ?_; rintro e w1 ⟨rfl, hb1⟩) | (go_at_call 44; refine (c _).mono ?_; rintro e w2 ⟨rfl, hb2⟩; obtain ⟨hc2, hf2⟩ := bcell hb2; have hz2 : w1.heap.size < w2.heap.size := (by have := hb2.size; simp at this; omega)) | (go_at_call 45; refine (nan16 _).mono ?_; rintro e w3 ⟨rfl, hb3⟩))
    go_ret
    exact ⟨rfl, by repeat (first | (with_reducible exact Below.refl _ _) | (with_reducible refine below_step ?_ hb3) | (with_reducible refine below_step ?_ hb2) | (with_reducible refine below_alloc ?_ _) | (with_reducible refine below_step ?_ hb1) | (with_reducible refine below_set ?_ (by simp)))⟩
  · have hr : minM16 a b = a % 65536 := by unfold minM16; rw [hn, if_neg (by decide), if_neg (by unfold ord16 at hl; split at hl <;> split at hl <;> simp_all <;> omega)]
    rw [hr]
    rw [eO2] at eO
    clear hr hn hl eO2 hor
    generalize bits .or .u32 (a % 65536) (b % 65536) = O at *
    generalize a % 65536 = A at *
    generalize b % 65536 = B at *
    clear ha0 ha1 hb0 hb1
    go_enter Try.func13, Try.ntmps13
    go_wp2_with (first | (go_at_call 43; refine (kind16 _).mono ?_; rintro e w1 ⟨rfl, hb1⟩) | (go_at_call 44; refine (c _).mono ?_; rintro e w2 ⟨rfl, hb2⟩; obtain ⟨hc2, hf2⟩ := bcell hb2; have hz2 : w1.heap.size < w2.heap.size := (by have := hb2.size; simp at this; omega)) | (go_at_call 46; refine (mask16 _).mono ?_; rintro e w3 ⟨rfl, hb3⟩))
    go_ret
    exact ⟨rfl, by repeat (first | (with_reducible exact Below.refl _ _) | (with_reducible refine below_step ?_ hb3) | (with_reducible refine below_step ?_ hb2) | (with_reducible refine below_alloc ?_ _) | (with_reducible refine below_step ?_ hb1) | (with_reducible refine below_set ?_ (by simp)))⟩
  · have hr : minM16 a b = b % 65536 := by unfold minM16; rw [hn, if_neg (by decide), if_pos (by unfold ord16 at hl; split at hl <;> split at hl <;> simp_all <;> omega)]
    rw [hr]
    rw [eO2] at eO
    clear hr hn hl eO2 hor
    generalize bits .or .u32 (a % 65536) (b % 65536) = O at *
    generalize a % 65536 = A at *
    generalize b % 65536 = B at *
    clear ha0 ha1 hb0 hb1
    go_enter Try.func13, Try.ntmps13
    go_wp2_with (first | (go_at_call 43; refine (kind16 _).mono ?_; rintro e w1 ⟨rfl, hb1⟩) | (go_at_call 44; refine (c _).mono ?_; rintro e w2 ⟨rfl, hb2⟩; obtain ⟨hc2, hf2⟩ := bcell hb2; have hz2 : w1.heap.size < w2.heap.size := (by have := hb2.size; simp at this; omega)) | (go_at_call 46; refine (mask16 _).mono ?_; rintro e w3 ⟨rfl, hb3⟩))
    go_ret
    exact ⟨rfl, by repeat (first | (with_reducible exact Below.refl _ _) | (with_reducible refine below_step ?_ hb3) | (with_reducible refine below_step ?_ hb2) | (with_reducible refine below_alloc ?_ _) | (with_reducible refine below_step ?_ hb1) | (with_reducible refine below_set ?_ (by simp)))⟩
  · have hr : minM16 a b = bits .or .u32 (a % 65536) (b % 65536) := by 
      unfold minM16; rw [hn, if_neg (by decide)]
      have ea : a % 65536 = (a / 32768 % 2) * 32768 + a % 32768 := by omega
      have eb : b % 65536 = (b / 32768 % 2) * 32768 + b % 32768 := by omega
      have ra : 0 ≤ a % 65536 ∧ a % 65536 < 4294967296 := by omega
      have rb : 0 ≤ b % 65536 ∧ b % 65536 < 4294967296 := by omega
      unfold ord16 at hl
      by_cases s1 : a / 32768 % 2 = 1 <;> by_cases s2 : b / 32768 % 2 = 1
      · rw [if_pos s1, if_pos s2] at hl
        rw [if_pos s1, if_pos s2, if_neg (by omega), show b % 65536 = a % 65536 by rw [ea, eb]; omega, or_self32 _ ra.1 ra.2]
      · rw [if_pos s1, if_neg s2] at hl
        rw [if_pos s1, if_neg s2, if_neg (by omega), show b % 65536 = 0 by rw [eb]; omega, (or_zero32 _ ra.1 ra.2).1]
      · rw [if_neg s1, if_pos s2] at hl
        rw [if_neg s1, if_pos s2, if_pos (by omega), show a % 65536 = 0 by rw [ea]; omega, (or_zero32 _ rb.1 rb.2).2]
      · rw [if_neg s1, if_neg s2] at hl
        rw [if_neg s1, if_neg s2, if_neg (by omega), show b % 65536 = a % 65536 by rw [ea, eb]; omega, or_self32 _ ra.1 ra.2]
    rw [hr]
    rw [eO2] at eO
    clear hr hn hl eO2 hor
    generalize bits .or .u32 (a % 65536) (b % 65536) = O at *
    generalize a % 65536 = A at *
    generalize b % 65536 = B at *
    clear ha0 ha1 hb0 hb1
    go_enter Try.func13, Try.ntmps13
    go_wp2_with (first | (go_at_call 43; refine (kind16 _).mono ?_; rintro e w1 ⟨rfl, hb1⟩) | (go_at_call 44; refine (c _).mono ?_; rintro e w2 ⟨rfl, hb2⟩; obtain ⟨hc2, hf2⟩ := bcell hb2; have hz2 : w1.heap.size < w2.heap.size := (by have := hb2.size; simp at this; omega)) | (go_at_call 46; refine (mask16 _).mono ?_; rintro e w3 ⟨rfl, hb3⟩))
    go_ret
    exact ⟨rfl, by repeat (first | (with_reducible exact Below.refl _ _) | (with_reducible refine below_step ?_ hb3) | (with_reducible refine below_step ?_ hb2) | (with_reducible refine below_alloc ?_ _) | (with_reducible refine below_step ?_ hb1) | (with_reducible refine below_set ?_ (by simp)))⟩
/-! #### kind 32 -/
/-- What both make of two floats. -/
def minM32 (a b : Int) : Int := if (op32 a).nan || (op32 b).nan then 2143289344 else if (if b / 2147483648 % 2 = 1 then -(b % 2147483648) - 1 else b % 2147483648) < (if a / 2147483648 % 2 = 1 then -(a % 2147483648) - 1 else a % 2147483648) then b % 4294967296 else a % 4294967296
set_option maxHeartbeats 1000000 in
theorem specM32 (a b : Int) (ha0 : 0 ≤ a) (ha1 : a < 4294967296) (hb0 : 0 ≤ b) (hb1 : b < 4294967296) (w : World) : Calls Try.prog 13 #[.int .i64 32, .int .u32 a, .int .u32 b] w fun e w' => e = .returned (.int .u32 (minM32 a b)) ∧ Below w.heap.size w w' := by
  have c := fun w => compare32 a b ha0 ha1 hb0 hb1 w
  have hor : 0 ≤ bits .or .u32 a b ∧ bits .or .u32 a b < 4294967296 := by rw [Pl.bits_or_nat, IntKind.wrap_u32]; omega
  have eA : bits .and .u32 a 4294967295 = a % 4294967296 := by rw [Pl.bits_and_nat, Int.emod_eq_of_lt ha0 (by simpa [IntKind.bits] using ha1), show (((4294967295 : Int) % 2 ^ IntKind.u32.bits).toNat) = 2 ^ 32 - 1 by decide, Nat.and_two_pow_sub_one_eq_mod, IntKind.wrap_u32]; omega
  have eB : bits .and .u32 b 4294967295 = b % 4294967296 := by rw [Pl.bits_and_nat, Int.emod_eq_of_lt hb0 (by simpa [IntKind.bits] using hb1), show (((4294967295 : Int) % 2 ^ IntKind.u32.bits).toNat) = 2 ^ 32 - 1 by decide, Nat.and_two_pow_sub_one_eq_mod, IntKind.wrap_u32]; omega
  have eO : bits .and .u32 (bits .or .u32 a b) 4294967295 = bits .or .u32 a b % 4294967296 := by rw [Pl.bits_and_nat, Int.emod_eq_of_lt hor.1 (by simpa [IntKind.bits] using hor.2), show (((4294967295 : Int) % 2 ^ IntKind.u32.bits).toNat) = 2 ^ 32 - 1 by decide, Nat.and_two_pow_sub_one_eq_mod, IntKind.wrap_u32]; omega
  have eO2 : bits .or .u32 a b % 4294967296 = bits .or .u32 (a % 4294967296) (b % 4294967296) := bits_or_mod 32 (by decide) a b ha0 ha1 hb0 hb1
  rcases cmp_cases (op32 a).nan (op32 b).nan (ord32 a) (ord32 b) with ⟨hc, hn⟩ | ⟨hc, hn, hl⟩ | ⟨hc, hn, hl⟩ | ⟨hc, hn, hl⟩
  all_goals
    rw [hc] at c
    clear hc
  · have hr : minM32 a b = 2143289344 := by unfold minM32; rw [hn]; rfl
    rw [hr]
    clear hr hn eA eB eO eO2 hor ha0 ha1 hb0 hb1
    go_enter Try.func13, Try.ntmps13
    go_wp2_with (first | (go_at_call 43; refine (kind32 _).mono ?_; rintro e w1 ⟨rfl, hb1⟩) | (go_at_call 44; refine (c _).mono ?_; rintro e w2 ⟨rfl, hb2⟩; obtain ⟨hc2, hf2⟩ := bcell hb2; have hz2 : w1.heap.size < w2.heap.size := (by have := hb2.size; simp at this; omega)) | (go_at_call 45; refine (nan32 _).mono ?_; rintro e w3 ⟨rfl, hb3⟩))
    go_ret
    exact ⟨rfl, by repeat (first | (with_reducible exact Below.refl _ _) | (with_reducible refine below_step ?_ hb3) | (with_reducible refine below_step ?_ hb2) | (with_reducible refine below_alloc ?_ _) | (with_reducible refine below_step ?_ hb1) | (with_reducible refine below_set ?_ (by simp)))⟩
  · have hr : minM32 a b = a % 4294967296 := by unfold minM32; rw [hn, if_neg (by decide), if_neg (by unfold ord32 at hl; split at hl <;> split at hl <;> simp_all <;> omega)]
    rw [hr]
    rw [eO2] at eO
    clear hr hn hl eO2 hor
    generalize bits .or .u32 (a % 4294967296) (b % 4294967296) = O at *
    generalize a % 4294967296 = A at *
    generalize b % 4294967296 = B at *
    clear ha0 ha1 hb0 hb1
    go_enter Try.func13, Try.ntmps13
    go_wp2_with (first | (go_at_call 43; refine (kind32 _).mono ?_; rintro e w1 ⟨rfl, hb1⟩) | (go_at_call 44; refine (c _).mono ?_; rintro e w2 ⟨rfl, hb2⟩; obtain ⟨hc2, hf2⟩ := bcell hb2; have hz2 : w1.heap.size < w2.heap.size := (by have := hb2.size; simp at this; omega)) | (go_at_call 46; refine (mask32 _).mono ?_; rintro e w3 ⟨rfl, hb3⟩))
    go_ret
    exact ⟨rfl, by repeat (first | (with_reducible exact Below.refl _ _) | (with_reducible refine below_step ?_ hb3) | (with_reducible refine below_step ?_ hb2) | (with_reducible refine below_alloc ?_ _) | (with_reducible refine below_step ?_ hb1) | (with_reducible refine below_set ?_ (by simp)))⟩
  · have hr : minM32 a b = b % 4294967296 := by unfold minM32; rw [hn, if_neg (by decide), if_pos (by unfold ord32 at hl; split at hl <;> split at hl <;> simp_all <;> omega)]
    rw [hr]
    rw [eO2] at eO
    clear hr hn hl eO2 hor
    generalize bits .or .u32 (a % 4294967296) (b % 4294967296) = O at *
    generalize a % 4294967296 = A at *
    generalize b % 4294967296 = B at *
    clear ha0 ha1 hb0 hb1
    go_enter Try.func13, Try.ntmps13
    go_wp2_with (first | (go_at_call 43; refine (kind32 _).mono ?_; rintro e w1 ⟨rfl, hb1⟩) | (go_at_call 44; refine (c _).mono ?_; rintro e w2 ⟨rfl, hb2⟩; obtain ⟨hc2, hf2⟩ := bcell hb2; have hz2 : w1.heap.size < w2.heap.size := (by have := hb2.size; simp at this; omega)) | (go_at_call 46; refine (mask32 _).mono ?_; rintro e w3 ⟨rfl, hb3⟩))
    go_ret
    exact ⟨rfl, by repeat (first | (with_reducible exact Below.refl _ _) | (with_reducible refine below_step ?_ hb3) | (with_reducible refine below_step ?_ hb2) | (with_reducible refine below_alloc ?_ _) | (with_reducible refine below_step ?_ hb1) | (with_reducible refine below_set ?_ (by simp)))⟩
  · have hr : minM32 a b = bits .or .u32 (a % 4294967296) (b % 4294967296) := by 
      unfold minM32; rw [hn, if_neg (by decide)]
      have ea : a % 4294967296 = (a / 2147483648 % 2) * 2147483648 + a % 2147483648 := by omega
      have eb : b % 4294967296 = (b / 2147483648 % 2) * 2147483648 + b % 2147483648 := by omega
      have ra : 0 ≤ a % 4294967296 ∧ a % 4294967296 < 4294967296 := by omega
      have rb : 0 ≤ b % 4294967296 ∧ b % 4294967296 < 4294967296 := by omega
      unfold ord32 at hl
      by_cases s1 : a / 2147483648 % 2 = 1 <;> by_cases s2 : b / 2147483648 % 2 = 1
      · rw [if_pos s1, if_pos s2] at hl
        rw [if_pos s1, if_pos s2, if_neg (by omega), show b % 4294967296 = a % 4294967296 by rw [ea, eb]; omega, or_self32 _ ra.1 ra.2]
      · rw [if_pos s1, if_neg s2] at hl
        rw [if_pos s1, if_neg s2, if_neg (by omega), show b % 4294967296 = 0 by rw [eb]; omega, (or_zero32 _ ra.1 ra.2).1]
      · rw [if_neg s1, if_pos s2] at hl
        rw [if_neg s1, if_pos s2, if_pos (by omega), show a % 4294967296 = 0 by rw [ea]; omega, (or_zero32 _ rb.1 rb.2).2]
      · rw [if_neg s1, if_neg s2] at hl
        rw [if_neg s1, if_neg s2, if_neg (by omega), show b % 4294967296 = a % 4294967296 by rw [ea, eb]; omega, or_self32 _ ra.1 ra.2]
    rw [hr]
    rw [eO2] at eO
    clear hr hn hl eO2 hor
    generalize bits .or .u32 (a % 4294967296) (b % 4294967296) = O at *
    generalize a % 4294967296 = A at *
    generalize b % 4294967296 = B at *
    clear ha0 ha1 hb0 hb1
    go_enter Try.func13, Try.ntmps13
    go_wp2_with (first | (go_at_call 43; refine (kind32 _).mono ?_; rintro e w1 ⟨rfl, hb1⟩) | (go_at_call 44; refine (c _).mono ?_; rintro e w2 ⟨rfl, hb2⟩; obtain ⟨hc2, hf2⟩ := bcell hb2; have hz2 : w1.heap.size < w2.heap.size := (by have := hb2.size; simp at this; omega)) | (go_at_call 46; refine (mask32 _).mono ?_; rintro e w3 ⟨rfl, hb3⟩))
    go_ret
    exact ⟨rfl, by repeat (first | (with_reducible exact Below.refl _ _) | (with_reducible refine below_step ?_ hb3) | (with_reducible refine below_step ?_ hb2) | (with_reducible refine below_alloc ?_ _) | (with_reducible refine below_step ?_ hb1) | (with_reducible refine below_set ?_ (by simp)))⟩
theorem gkind16 (w : World) : Calls Try.prog 47 #[.int .i64 16] w fun e w' => e = .returned (.tuple #[.agg #[.int .i64 10, .int .i64 15], .bool true]) ∧ Below w.heap.size w w' := by
  go_enter Try.func47, Try.ntmps47
  go_wp2
  refine bodyPost_ret (v := .tuple #[.agg #[.int .i64 10, .int .i64 15], .bool true]) (by simp [results, Try.results47, go_sem]) rfl ⟨rfl, ?_⟩
  repeat (first | (with_reducible exact Below.refl _ _) | (with_reducible refine below_alloc ?_ _) | (with_reducible refine below_set ?_ (by simp)))
theorem gnan16 (w : World) : Calls Try.prog 49 #[.agg #[.int .i64 10, .int .i64 15]] w fun e w' => e = .returned (.int .u32 32256) ∧ Below w.heap.size w w' := PnoNumber.impl_format_noNumber.calls 10 15 32256 w (by decide +kernel)
theorem gmask16 (w : World) : Calls Try.prog 51 #[.agg #[.int .i64 10, .int .i64 15]] w fun e w' => e = .returned (.int .u32 65535) ∧ Below w.heap.size w w' := Pmask.impl_format_mask.calls 10 15 65535 w (by decide +kernel)
theorem gopen16 (a : Int) (ha0 : 0 ≤ a) (ha1 : a < 4294967296) (w : World) : Calls Try.prog 48 #[.agg #[.int .i64 10, .int .i64 15], .int .u32 a] w fun e w' => e = .returned (.agg #[.bool (op16 a).neg, .bool (op16 a).nan, .bool (op16 a).inf, .int .u64 (op16 a).m, .int .i64 (op16 a).e]) ∧ Below w.heap.size w w' := Popen.impl_format_open.calls 10 15 a _ _ _ _ _ w (FI.impl_open16 a ha0 ha1)
theorem gorder16 (a : Int) (ha0 : 0 ≤ a) (ha1 : a < 4294967296) (w : World) : Calls Try.prog 50 #[.agg #[.int .i64 10, .int .i64 15], .int .u32 a] w fun e w' => e = .returned (.int .i64 (if a / 32768 % 2 = 1 then -(a % 32768) - 1 else a % 32768)) ∧ Below w.heap.size w w' := Porder.impl_format_order.calls 10 15 a _ w (FO.impl_order16 a ha0 ha1)
set_option maxRecDepth 100000 in
set_option maxHeartbeats 4000000 in
theorem implM16 (a b : Int) (ha0 : 0 ≤ a) (ha1 : a < 4294967296) (hb0 : 0 ≤ b) (hb1 : b < 4294967296) (w : World) : Calls Try.prog 14 #[.int .i64 16, .int .u32 a, .int .u32 b] w fun e w' => e = .returned (.int .u32 (minM16 a b)) ∧ Below w.heap.size w w' := by
  have ca := fun w => gopen16 a ha0 ha1 w
  have cb := fun w => gopen16 b hb0 hb1 w
  have oa := fun w => gorder16 a ha0 ha1 w
  have ob := fun w => gorder16 b hb0 hb1 w
  have eA : bits .and .u32 a 65535 = a % 65536 := and_low .u32 16 (by decide) a _ (by decide)
  have eB : bits .and .u32 b 65535 = b % 65536 := and_low .u32 16 (by decide) b _ (by decide)
  unfold minM16
  generalize op16 a = f at *
  generalize op16 b = g at *
  generalize (if a / 32768 % 2 = 1 then -(a % 32768) - 1 else a % 32768) = x at *
  generalize (if b / 32768 % 2 = 1 then -(b % 32768) - 1 else b % 32768) = y at *
  generalize a % 65536 = A at *
  generalize b % 65536 = B at *
  obtain ⟨neg, inf, nan, m, e⟩ := f
  obtain ⟨neg', inf', nan', m', e'⟩ := g
  simp only at ca cb ⊢
  have hfa : ∀ w : World, (Instr.field 76 (.agg #[.bool neg, .bool nan, .bool inf, .int .u64 m, .int .i64 e]) 1).run Try.prog w = .ok (.bool nan) w := fun _ => by kernel_rfl
  have hfb : ∀ w : World, (Instr.field 76 (.agg #[.bool neg', .bool nan', .bool inf', .int .u64 m', .int .i64 e']) 1).run Try.prog w = .ok (.bool nan') w := fun _ => by kernel_rfl
  clear ha0 ha1 hb0 hb1
  by_cases hl : y < x
  have hd : decide (y < x) = true := decide_eq_true hl
  rotate_left 1
  have hd : decide (y < x) = false := decide_eq_false hl
  all_goals
    cases nan <;> cases nan'
  all_goals
    simp only [Bool.or_self, Bool.or_true, Bool.true_or, Bool.false_eq_true, if_false, if_true, hl]
  all_goals
    go_enter Try.func14, Try.ntmps14
    go_wp2_with (first
      | (go_at_call 47; refine (gkind16 _).mono ?_; rintro e w0 ⟨rfl, hb0⟩)
      | (go_at_call 48; ((with_reducible refine (ca _).mono ?_); rintro e w1 ⟨rfl, hb1⟩; obtain ⟨hc1, hf1⟩ := bcell hb1; have hz1 : w0.heap.size < w1.heap.size := (by have := hb1.size; simp at this; omega)))
      | (go_at_call 48; ((with_reducible refine (cb _).mono ?_); rintro e w2 ⟨rfl, hb2⟩; obtain ⟨hc2, hf2⟩ := bcell hb2; have hz3 : w0.heap.size < w2.heap.size := (by have := hb2.size; omega)))
      | (go_at_call 49; refine (gnan16 _).mono ?_; rintro e w5 ⟨rfl, hb5⟩)
      | (go_at_call 51; refine (gmask16 _).mono ?_; rintro e w6 ⟨rfl, hb6⟩))
    first
    | (go_ret; exact ⟨rfl, by repeat (first | (with_reducible exact Below.refl _ _) | (with_reducible refine below_drew1 ?_) | (with_reducible refine pw_below_drewN ?_ _) | (with_reducible refine below_step ?_ hb6) | (with_reducible refine below_step ?_ hb5) | (with_reducible refine below_step ?_ hb4) | (with_reducible refine below_step ?_ hb3) | (with_reducible refine below_step ?_ hb2) | (with_reducible refine below_step ?_ hb1) | (with_reducible refine below_alloc ?_ _) | (with_reducible refine below_step ?_ hb0) | (with_reducible refine below_set ?_ (by simp)))⟩)
    | (go_region_with (first
        | (go_at_call 50; have _ := hb3; ((with_reducible refine (oa _).mono ?_); rintro e w4 ⟨rfl, hb4⟩; have hc4 : ∀ b o, b < w3.heap.size → w4.cell? ⟨b, o, none⟩ = w3.cell? ⟨b, o, none⟩ := (bcell hb4).1; have hf4 : ∀ b o, b < w3.heap.size → w4.frozen? ⟨b, o, none⟩ = w3.frozen? ⟨b, o, none⟩ := (bcell hb4).2; have hz6 : w0.heap.size < w4.heap.size := (by have := hb4.size; omega)))
        | (go_at_call 50; ((with_reducible refine (ob _).mono ?_); rintro e w3 ⟨rfl, hb3⟩; have hc3 : ∀ b o, b < w2.heap.size → w3.cell? ⟨b, o, none⟩ = w2.cell? ⟨b, o, none⟩ := (bcell hb3).1; have hf3 : ∀ b o, b < w2.heap.size → w3.frozen? ⟨b, o, none⟩ = w2.frozen? ⟨b, o, none⟩ := (bcell hb3).2; have hz5 : w0.heap.size < w3.heap.size := (by have := hb3.size; first | omega | (simp at this; omega)))))
       all_goals
         simp only [Exit.then]
         first | (rename_i kk; refine kk _ _ ?_) | (rename_i kk _; refine kk _ _ ?_) | (rename_i kk _ _; refine kk _ _ ?_) | (rename_i kk _ _ _; refine kk _ _ ?_) | (rename_i kk _ _ _ _; refine kk _ _ ?_)
         go_wp2_with (go_at_call 51; refine (gmask16 _).mono ?_; rintro e w6 ⟨rfl, hb6⟩)
         go_ret
         exact ⟨rfl, by repeat (first | (with_reducible exact Below.refl _ _) | (with_reducible refine below_drew1 ?_) | (with_reducible refine pw_below_drewN ?_ _) | (with_reducible refine below_step ?_ hb6) | (with_reducible refine below_step ?_ hb5) | (with_reducible refine below_step ?_ hb4) | (with_reducible refine below_step ?_ hb3) | (with_reducible refine below_step ?_ hb2) | (with_reducible refine below_step ?_ hb1) | (with_reducible refine below_alloc ?_ _) | (with_reducible refine below_step ?_ hb0) | (with_reducible refine below_set ?_ (by simp)))⟩)

theorem gkind32 (w : World) : Calls Try.prog 47 #[.int .i64 32] w fun e w' => e = .returned (.tuple #[.agg #[.int .i64 23, .int .i64 127], .bool true]) ∧ Below w.heap.size w w' := by
  go_enter Try.func47, Try.ntmps47
  go_wp2
  refine bodyPost_ret (v := .tuple #[.agg #[.int .i64 23, .int .i64 127], .bool true]) (by simp [results, Try.results47, go_sem]) rfl ⟨rfl, ?_⟩
  repeat (first | (with_reducible exact Below.refl _ _) | (with_reducible refine below_alloc ?_ _) | (with_reducible refine below_set ?_ (by simp)))
theorem gnan32 (w : World) : Calls Try.prog 49 #[.agg #[.int .i64 23, .int .i64 127]] w fun e w' => e = .returned (.int .u32 2143289344) ∧ Below w.heap.size w w' := PnoNumber.impl_format_noNumber.calls 23 127 2143289344 w (by decide +kernel)
theorem gmask32 (w : World) : Calls Try.prog 51 #[.agg #[.int .i64 23, .int .i64 127]] w fun e w' => e = .returned (.int .u32 4294967295) ∧ Below w.heap.size w w' := Pmask.impl_format_mask.calls 23 127 4294967295 w (by decide +kernel)
theorem gopen32 (a : Int) (ha0 : 0 ≤ a) (ha1 : a < 4294967296) (w : World) : Calls Try.prog 48 #[.agg #[.int .i64 23, .int .i64 127], .int .u32 a] w fun e w' => e = .returned (.agg #[.bool (op32 a).neg, .bool (op32 a).nan, .bool (op32 a).inf, .int .u64 (op32 a).m, .int .i64 (op32 a).e]) ∧ Below w.heap.size w w' := Popen.impl_format_open.calls 23 127 a _ _ _ _ _ w (FI.impl_open32 a ha0 ha1)
theorem gorder32 (a : Int) (ha0 : 0 ≤ a) (ha1 : a < 4294967296) (w : World) : Calls Try.prog 50 #[.agg #[.int .i64 23, .int .i64 127], .int .u32 a] w fun e w' => e = .returned (.int .i64 (if a / 2147483648 % 2 = 1 then -(a % 2147483648) - 1 else a % 2147483648)) ∧ Below w.heap.size w w' := Porder.impl_format_order.calls 23 127 a _ w (FO.impl_order32 a ha0 ha1)
set_option maxRecDepth 100000 in
set_option maxHeartbeats 4000000 in
theorem implM32 (a b : Int) (ha0 : 0 ≤ a) (ha1 : a < 4294967296) (hb0 : 0 ≤ b) (hb1 : b < 4294967296) (w : World) : Calls Try.prog 14 #[.int .i64 32, .int .u32 a, .int .u32 b] w fun e w' => e = .returned (.int .u32 (minM32 a b)) ∧ Below w.heap.size w w' := by
  have ca := fun w => gopen32 a ha0 ha1 w
  have cb := fun w => gopen32 b hb0 hb1 w
  have oa := fun w => gorder32 a ha0 ha1 w
  have ob := fun w => gorder32 b hb0 hb1 w
  have eA : bits .and .u32 a 4294967295 = a % 4294967296 := by rw [Pl.bits_and_nat, Int.emod_eq_of_lt ha0 (by simpa [IntKind.bits] using ha1), show (((4294967295 : Int) % 2 ^ IntKind.u32.bits).toNat) = 2 ^ 32 - 1 by decide, Nat.and_two_pow_sub_one_eq_mod, IntKind.wrap_u32]; omega
  have eB : bits .and .u32 b 4294967295 = b % 4294967296 := by rw [Pl.bits_and_nat, Int.emod_eq_of_lt hb0 (by simpa [IntKind.bits] using hb1), show (((4294967295 : Int) % 2 ^ IntKind.u32.bits).toNat) = 2 ^ 32 - 1 by decide, Nat.and_two_pow_sub_one_eq_mod, IntKind.wrap_u32]; omega
  unfold minM32
  generalize op32 a = f at *
  generalize op32 b = g at *
  generalize (if a / 2147483648 % 2 = 1 then -(a % 2147483648) - 1 else a % 2147483648) = x at *
  generalize (if b / 2147483648 % 2 = 1 then -(b % 2147483648) - 1 else b % 2147483648) = y at *
  generalize a % 4294967296 = A at *
  generalize b % 4294967296 = B at *
  obtain ⟨neg, inf, nan, m, e⟩ := f
  obtain ⟨neg', inf', nan', m', e'⟩ := g
  simp only at ca cb ⊢
  have hfa : ∀ w : World, (Instr.field 76 (.agg #[.bool neg, .bool nan, .bool inf, .int .u64 m, .int .i64 e]) 1).run Try.prog w = .ok (.bool nan) w := fun _ => by kernel_rfl
  have hfb : ∀ w : World, (Instr.field 76 (.agg #[.bool neg', .bool nan', .bool inf', .int .u64 m', .int .i64 e']) 1).run Try.prog w = .ok (.bool nan') w := fun _ => by kernel_rfl
  clear ha0 ha1 hb0 hb1
  by_cases hl : y < x
  have hd : decide (y < x) = true := decide_eq_true hl
  rotate_left 1
  have hd : decide (y < x) = false := decide_eq_false hl
  all_goals
    cases nan <;> cases nan'
  all_goals
    simp only [Bool.or_self, Bool.or_true, Bool.true_or, Bool.false_eq_true, if_false, if_true, hl]
  all_goals
    go_enter Try.func14, Try.ntmps14
    go_wp2_with (first
      | (go_at_call 47; refine (gkind32 _).mono ?_; rintro e w0 ⟨rfl, hb0⟩)
      | (go_at_call 48; ((with_reducible refine (ca _).mono ?_); rintro e w1 ⟨rfl, hb1⟩; obtain ⟨hc1, hf1⟩ := bcell hb1; have hz1 : w0.heap.size < w1.heap.size := (by have := hb1.size; simp at this; omega)))
      | (go_at_call 48; ((with_reducible refine (cb _).mono ?_); rintro e w2 ⟨rfl, hb2⟩; obtain ⟨hc2, hf2⟩ := bcell hb2; have hz3 : w0.heap.size < w2.heap.size := (by have := hb2.size; omega)))
      | (go_at_call 49; refine (gnan32 _).mono ?_; rintro e w5 ⟨rfl, hb5⟩)
      | (go_at_call 51; refine (gmask32 _).mono ?_; rintro e w6 ⟨rfl, hb6⟩))
    first
    | (go_ret; exact ⟨rfl, by repeat (first | (with_reducible exact Below.refl _ _) | (with_reducible refine below_drew1 ?_) | (with_reducible refine pw_below_drewN ?_ _) | (with_reducible refine below_step ?_ hb6) | (with_reducible refine below_step ?_ hb5) | (with_reducible refine below_step ?_ hb4) | (with_reducible refine below_step ?_ hb3) | (with_reducible refine below_step ?_ hb2) | (with_reducible refine below_step ?_ hb1) | (with_reducible refine below_alloc ?_ _) | (with_reducible refine below_step ?_ hb0) | (with_reducible refine below_set ?_ (by simp)))⟩)
    | (go_region_with (first
        | (go_at_call 50; have _ := hb3; ((with_reducible refine (oa _).mono ?_); rintro e w4 ⟨rfl, hb4⟩; have hc4 : ∀ b o, b < w3.heap.size → w4.cell? ⟨b, o, none⟩ = w3.cell? ⟨b, o, none⟩ := (bcell hb4).1; have hf4 : ∀ b o, b < w3.heap.size → w4.frozen? ⟨b, o, none⟩ = w3.frozen? ⟨b, o, none⟩ := (bcell hb4).2; have hz6 : w0.heap.size < w4.heap.size := (by have := hb4.size; omega)))
        | (go_at_call 50; ((with_reducible refine (ob _).mono ?_); rintro e w3 ⟨rfl, hb3⟩; have hc3 : ∀ b o, b < w2.heap.size → w3.cell? ⟨b, o, none⟩ = w2.cell? ⟨b, o, none⟩ := (bcell hb3).1; have hf3 : ∀ b o, b < w2.heap.size → w3.frozen? ⟨b, o, none⟩ = w2.frozen? ⟨b, o, none⟩ := (bcell hb3).2; have hz5 : w0.heap.size < w3.heap.size := (by have := hb3.size; first | omega | (simp at this; omega)))))
       all_goals
         simp only [Exit.then]
         first | (rename_i kk; refine kk _ _ ?_) | (rename_i kk _; refine kk _ _ ?_) | (rename_i kk _ _; refine kk _ _ ?_) | (rename_i kk _ _ _; refine kk _ _ ?_) | (rename_i kk _ _ _ _; refine kk _ _ ?_)
         go_wp2_with (go_at_call 51; refine (gmask32 _).mono ?_; rintro e w6 ⟨rfl, hb6⟩)
         go_ret
         exact ⟨rfl, by repeat (first | (with_reducible exact Below.refl _ _) | (with_reducible refine below_drew1 ?_) | (with_reducible refine pw_below_drewN ?_ _) | (with_reducible refine below_step ?_ hb6) | (with_reducible refine below_step ?_ hb5) | (with_reducible refine below_step ?_ hb4) | (with_reducible refine below_step ?_ hb3) | (with_reducible refine below_step ?_ hb2) | (with_reducible refine below_step ?_ hb1) | (with_reducible refine below_alloc ?_ _) | (with_reducible refine below_step ?_ hb0) | (with_reducible refine below_set ?_ (by simp)))⟩)

theorem specM_else (k a b : Int) (h : k ≠ 16 ∧ k ≠ 32) (w : World) : Calls Try.prog 13 #[.int .i64 k, .int .u32 a, .int .u32 b] w fun e w' => e = .returned (.int .u32 0) ∧ Below w.heap.size w w' := by
  have c := fun w => kind_else k h w
  clear h
  go_enter Try.func13, Try.ntmps13
  go_wp2_with (go_at_call 43; refine (c _).mono ?_; rintro e w1 ⟨rfl, hb1⟩)
  go_ret
  exact ⟨rfl, by repeat (first | (with_reducible exact Below.refl _ _) | (with_reducible refine below_alloc ?_ _) | (with_reducible refine below_step ?_ hb1) | (with_reducible refine below_set ?_ (by simp)))⟩
theorem gkind_else (k : Int) (h : k ≠ 16 ∧ k ≠ 32) (w : World) : Calls Try.prog 47 #[.int .i64 k] w fun e w' => e = .returned (.tuple #[.agg #[.int .i64 0, .int .i64 0], .bool false]) ∧ Below w.heap.size w w' := by
  have h1 : (k == 16) = false := beq_eq_false_iff_ne.2 h.1
  have h2 : (k == 32) = false := beq_eq_false_iff_ne.2 h.2
  clear h
  go_enter Try.func47, Try.ntmps47
  go_wp2
  refine bodyPost_ret (v := .tuple #[.agg #[.int .i64 0, .int .i64 0], .bool false]) (by simp [results, Try.results47, go_sem]) rfl ⟨rfl, ?_⟩
  repeat (first | (with_reducible exact Below.refl _ _) | (with_reducible refine below_alloc ?_ _) | (with_reducible refine below_set ?_ (by simp)))
theorem implM_else (k a b : Int) (h : k ≠ 16 ∧ k ≠ 32) (w : World) : Calls Try.prog 14 #[.int .i64 k, .int .u32 a, .int .u32 b] w fun e w' => e = .returned (.int .u32 0) ∧ Below w.heap.size w w' := by
  have c := fun w => gkind_else k h w
  clear h
  go_enter Try.func14, Try.ntmps14
  go_wp2_with (go_at_call 47; refine (c _).mono ?_; rintro e w1 ⟨rfl, hb1⟩)
  go_ret
  exact ⟨rfl, by repeat (first | (with_reducible exact Below.refl _ _) | (with_reducible refine below_alloc ?_ _) | (with_reducible refine below_step ?_ hb1) | (with_reducible refine below_set ?_ (by simp)))⟩
theorem both (k a b : Int) (ha0 : 0 ≤ a) (ha1 : a < 4294967296) (hb0 : 0 ≤ b) (hb1 : b < 4294967296) : ∃ r : Int, ∀ w : World, (Calls Try.prog 13 #[.int .i64 k, .int .u32 a, .int .u32 b] w fun en w' => en = .returned (.int .u32 r) ∧ Below w.heap.size w w') ∧
    (Calls Try.prog 14 #[.int .i64 k, .int .u32 a, .int .u32 b] w fun en w' => en = .returned (.int .u32 r) ∧ Below w.heap.size w w') := by
  by_cases h16 : k = 16
  · subst h16
    exact ⟨_, fun w => ⟨specM16 a b ha0 ha1 hb0 hb1 w, implM16 a b ha0 ha1 hb0 hb1 w⟩⟩
  · by_cases h32 : k = 32
    · subst h32
      exact ⟨_, fun w => ⟨specM32 a b ha0 ha1 hb0 hb1 w, implM32 a b ha0 ha1 hb0 hb1 w⟩⟩
    · exact ⟨_, fun w => ⟨specM_else k a b ⟨h16, h32⟩ w, implM_else k a b ⟨h16, h32⟩ w⟩⟩
theorem law (k a b : Int) (ha0 : 0 ≤ a) (ha1 : a < 4294967296) (hb0 : 0 ≤ b) (hb1 : b < 4294967296) (w : World) : Calls Try.prog 3 #[.int .i64 k, .int .u32 a, .int .u32 b] w fun e w' => e = .returned (.bool true) ∧ Below w.heap.size w w' := by
  obtain ⟨r, hc⟩ := both k a b ha0 ha1 hb0 hb1
  clear ha0 ha1 hb0 hb1
  go_enter Try.func3, Try.ntmps3
  go_wp2_with (first | (go_at_call 13; refine (hc _).1.mono ?_; rintro e w1 ⟨rfl, hb1⟩) | (go_at_call 14; refine (hc _).2.mono ?_; rintro e w2 ⟨rfl, hb2⟩))
  go_ret
  exact ⟨by simp, below_step hb1 hb2⟩


end Go.Proofs.Ytfmmmfddpfddoaa.OwnFMin
