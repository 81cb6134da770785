/- FCompare: walks of our own of the reference's functions and of the statement's; the program's by its printed walk; no condition beside a number's range. -/
import Derived.Test.YthpmpjejjbhkjaaOwnFloat
import Derived.Test.YthpmpjejjbhkjaaPFComparex
import Derived.Deep.QuietTactic
import Derived.BigQuiet
namespace Go.Proofs.Ythpmpjejjbhkjaa.OwnFCompare
open Go Go.RowKit Go.Proofs.YthpmpjejjbhkjaaW.PrintWords Go.Proofs.YthpmpjejjbhkjaaW.PrintLast Go.Proofs.YthpmpjejjbhkjaaW.PrintMore Go.Proofs.Ythpmpjejjbhkjaa.OwnFloat Go.Proofs.Ythpmpjejjbhkjaa.PFCompare
set_option linter.unusedVariables false
set_option linter.unusedSimpArgs false
/-! ### The reference's order and comparison -/
def cmpM (na nb : Bool) (x y : Int) : Int := if na || nb then 2 else if x < y then -1 else if y < x then 1 else 0
theorem reti {k : IntKind} {a b : Int} (h : a = b) : Ending.returned (.int k a) = .returned (.int k b) := by rw [h]
def ord16 (a : Int) : Int := if a / 32768 % 2 = 1 then -(a % 32768) else a % 32768
theorem order16 (a : Int) (ha0 : 0 ≤ a) (ha1 : a < 4294967296) (w : World) : Calls Try.prog 81 #[.agg #[.int .u64 5, .int .u64 10], .int .u32 a] w fun e w' => e = .returned (.int .i64 (ord16 a)) ∧ Below w.heap.size w w' := by
  have eA : bits .and .u32 a 65535 = a % 65536 := and_low .u32 16 (by decide) a _ (by decide)
  have eN : bits .and .u32 (a % 65536) 32767 = a % 32768 := by rw [and_low .u32 15 (by decide) _ _ (by decide)]; omega
  have eS : a % 65536 / 32768 = a / 32768 % 2 := by omega
  have hm : 0 ≤ a % 65536 ∧ a % 65536 < 65536 := by omega
  have hn : 0 ≤ a % 32768 ∧ a % 32768 < 32768 := by omega
  generalize a % 65536 = A at *
  obtain ⟨h0, h1⟩ := hm
  obtain ⟨n0, n1⟩ := hn
  unfold ord16
  by_cases hs : a / 32768 % 2 = 1
  · rw [if_pos hs]
    rw [hs] at eS
    generalize a % 32768 = n at *
    clear hs
    go_enter Try.func81, Try.ntmps81
    go_wp2_with (go_at_call 76; refine (mask16 _).mono ?_; rintro e w1 ⟨rfl, hb⟩; obtain ⟨hc, hf⟩ := bcell hb; have hz : w.heap.size < w1.heap.size := (by have := hb.size; simp at this; omega))
    go_ret
    exact ⟨reti (by first | rfl | omega), by with_reducible exact below_step (below_alloc (Below.refl _ _) _) hb⟩
  · rw [if_neg hs]
    have e2 : (A / 32768 == 1) = false := beq_eq_false_iff_ne.2 (by omega)
    generalize a % 32768 = n at *
    clear hs eS
    go_enter Try.func81, Try.ntmps81
    go_wp2_with (go_at_call 76; refine (mask16 _).mono ?_; rintro e w1 ⟨rfl, hb⟩; obtain ⟨hc, hf⟩ := bcell hb; have hz : w.heap.size < w1.heap.size := (by have := hb.size; simp at this; omega))
    go_ret
    exact ⟨reti (by first | rfl | omega), by with_reducible exact below_step (below_alloc (Below.refl _ _) _) hb⟩
set_option maxRecDepth 100000 in
set_option maxHeartbeats 4000000 in
theorem compare16 (a b : Int) (ha0 : 0 ≤ a) (ha1 : a < 4294967296) (hb0 : 0 ≤ b) (hb1 : b < 4294967296) (w : World) : Calls Try.prog 73 #[.agg #[.int .u64 5, .int .u64 10], .int .u32 a, .int .u32 b] w fun e w' => e = .returned (.int .i64 (cmpM (op16 a).nan (op16 b).nan (ord16 a) (ord16 b))) ∧ Below w.heap.size w w' := by
  have ca := fun w => open16 a ha0 ha1 w
  have cb := fun w => open16 b hb0 hb1 w
  have oa := fun w => order16 a ha0 ha1 w
  have ob := fun w => order16 b hb0 hb1 w
  generalize op16 a = f at *
  generalize op16 b = g at *
  generalize ord16 a = x at *
  generalize ord16 b = y at *
  obtain ⟨neg, inf, nan, m, e⟩ := f
  obtain ⟨neg', inf', nan', m', e'⟩ := g
  simp only [FP.val] at ca cb
  clear ha0 ha1 hb0 hb1
  have hfa : ∀ w : World, (Instr.field 84 (.agg #[.bool neg, .bool inf, .bool nan, .int .u64 m, .int .i64 e]) 2).run Try.prog w = .ok (.bool nan) w := fun _ => by kernel_rfl
  have hfb : ∀ w : World, (Instr.field 84 (.agg #[.bool neg', .bool inf', .bool nan', .int .u64 m', .int .i64 e']) 2).run Try.prog w = .ok (.bool nan') w := fun _ => by kernel_rfl
  cases nan <;> cases nan'
  all_goals
    go_enter Try.func73, Try.ntmps73
    go_wp2_with (first
      | (go_at_call 61; ((with_reducible refine (ca _).mono ?_); rintro e w1 ⟨rfl, hb1⟩; obtain ⟨hc1, hf1⟩ := bcell hb1; have hz1 : w.heap.size < w1.heap.size := (by have := hb1.size; simp at this; omega)))
      | (go_at_call 61; ((with_reducible refine (cb _).mono ?_); rintro e w2 ⟨rfl, hb2⟩; obtain ⟨hc2, hf2⟩ := bcell hb2; have hz3 : w.heap.size < w2.heap.size := (by have := hb2.size; omega)))
      | (go_at_call 81; ((with_reducible refine (oa _).mono ?_); rintro e w3 ⟨rfl, hb3⟩; obtain ⟨hc3, hf3⟩ := bcell hb3; have hz5 : w.heap.size < w3.heap.size := (by have := hb3.size; omega)))
      | (go_at_call 81; ((with_reducible refine (ob _).mono ?_); rintro e w4 ⟨rfl, hb4⟩)))
    all_goals go_ret
    all_goals refine ⟨reti (by unfold cmpM; first | rfl | (simp only [Bool.or_self, Bool.or_true, Bool.true_or, Bool.false_eq_true, if_false, if_true]; first | rfl | (repeat (first | rw [if_pos (by omega)] | rw [if_neg (by omega)])))), ?_⟩
    all_goals repeat (first | (with_reducible exact below_alloc (Below.refl _ _) _) | (with_reducible refine below_step ?_ hb4) | (with_reducible refine below_step ?_ hb3) | (with_reducible refine below_step ?_ hb2) | (with_reducible refine below_step ?_ hb1))

def ord32 (a : Int) : Int := if a / 2147483648 % 2 = 1 then -(a % 2147483648) else a % 2147483648
theorem order32 (a : Int) (ha0 : 0 ≤ a) (ha1 : a < 4294967296) (w : World) : Calls Try.prog 81 #[.agg #[.int .u64 8, .int .u64 23], .int .u32 a] w fun e w' => e = .returned (.int .i64 (ord32 a)) ∧ Below w.heap.size w w' := by
  have eA : bits .and .u32 a 4294967295 = a % 4294967296 := by rw [Pl.bits_and_nat, Int.emod_eq_of_lt ha0 (by simpa [IntKind.bits] using ha1), show (((4294967295 : Int) % 2 ^ IntKind.u32.bits).toNat) = 2 ^ 32 - 1 by decide, Nat.and_two_pow_sub_one_eq_mod, IntKind.wrap_u32]; omega
  have eN : bits .and .u32 (a % 4294967296) 2147483647 = a % 2147483648 := by rw [and_low .u32 31 (by decide) _ _ (by decide)]; omega
  have eS : a % 4294967296 / 2147483648 = a / 2147483648 % 2 := by omega
  have hm : 0 ≤ a % 4294967296 ∧ a % 4294967296 < 4294967296 := by omega
  have hn : 0 ≤ a % 2147483648 ∧ a % 2147483648 < 2147483648 := by omega
  generalize a % 4294967296 = A at *
  obtain ⟨h0, h1⟩ := hm
  obtain ⟨n0, n1⟩ := hn
  unfold ord32
  by_cases hs : a / 2147483648 % 2 = 1
  · rw [if_pos hs]
    rw [hs] at eS
    generalize a % 2147483648 = n at *
    clear hs
    go_enter Try.func81, Try.ntmps81
    go_wp2_with (go_at_call 76; refine (mask32 _).mono ?_; rintro e w1 ⟨rfl, hb⟩; obtain ⟨hc, hf⟩ := bcell hb; have hz : w.heap.size < w1.heap.size := (by have := hb.size; simp at this; omega))
    go_ret
    exact ⟨reti (by first | rfl | omega), by with_reducible exact below_step (below_alloc (Below.refl _ _) _) hb⟩
  · rw [if_neg hs]
    have e2 : (A / 2147483648 == 1) = false := beq_eq_false_iff_ne.2 (by omega)
    generalize a % 2147483648 = n at *
    clear hs eS
    go_enter Try.func81, Try.ntmps81
    go_wp2_with (go_at_call 76; refine (mask32 _).mono ?_; rintro e w1 ⟨rfl, hb⟩; obtain ⟨hc, hf⟩ := bcell hb; have hz : w.heap.size < w1.heap.size := (by have := hb.size; simp at this; omega))
    go_ret
    exact ⟨reti (by first | rfl | omega), by with_reducible exact below_step (below_alloc (Below.refl _ _) _) hb⟩
set_option maxRecDepth 100000 in
set_option maxHeartbeats 4000000 in
theorem compare32 (a b : Int) (ha0 : 0 ≤ a) (ha1 : a < 4294967296) (hb0 : 0 ≤ b) (hb1 : b < 4294967296) (w : World) : Calls Try.prog 73 #[.agg #[.int .u64 8, .int .u64 23], .int .u32 a, .int .u32 b] w fun e w' => e = .returned (.int .i64 (cmpM (op32 a).nan (op32 b).nan (ord32 a) (ord32 b))) ∧ Below w.heap.size w w' := by
  have ca := fun w => open32 a ha0 ha1 w
  have cb := fun w => open32 b hb0 hb1 w
  have oa := fun w => order32 a ha0 ha1 w
  have ob := fun w => order32 b hb0 hb1 w
  generalize op32 a = f at *
  generalize op32 b = g at *
  generalize ord32 a = x at *
  generalize ord32 b = y at *
  obtain ⟨neg, inf, nan, m, e⟩ := f
  obtain ⟨neg', inf', nan', m', e'⟩ := g
  simp only [FP.val] at ca cb
  clear ha0 ha1 hb0 hb1
  have hfa : ∀ w : World, (Instr.field 84 (.agg #[.bool neg, .bool inf, .bool nan, .int .u64 m, .int .i64 e]) 2).run Try.prog w = .ok (.bool nan) w := fun _ => by kernel_rfl
  have hfb : ∀ w : World, (Instr.field 84 (.agg #[.bool neg', .bool inf', .bool nan', .int .u64 m', .int .i64 e']) 2).run Try.prog w = .ok (.bool nan') w := fun _ => by kernel_rfl
  cases nan <;> cases nan'
  all_goals
    go_enter Try.func73, Try.ntmps73
    go_wp2_with (first
      | (go_at_call 61; ((with_reducible refine (ca _).mono ?_); rintro e w1 ⟨rfl, hb1⟩; obtain ⟨hc1, hf1⟩ := bcell hb1; have hz1 : w.heap.size < w1.heap.size := (by have := hb1.size; simp at this; omega)))
      | (go_at_call 61; ((with_reducible refine (cb _).mono ?_); rintro e w2 ⟨rfl, hb2⟩; obtain ⟨hc2, hf2⟩ := bcell hb2; have hz3 : w.heap.size < w2.heap.size := (by have := hb2.size; omega)))
      | (go_at_call 81; ((with_reducible refine (oa _).mono ?_); rintro e w3 ⟨rfl, hb3⟩; obtain ⟨hc3, hf3⟩ := bcell hb3; have hz5 : w.heap.size < w3.heap.size := (by have := hb3.size; omega)))
      | (go_at_call 81; ((with_reducible refine (ob _).mono ?_); rintro e w4 ⟨rfl, hb4⟩)))
    all_goals go_ret
    all_goals refine ⟨reti (by unfold cmpM; first | rfl | (simp only [Bool.or_self, Bool.or_true, Bool.true_or, Bool.false_eq_true, if_false, if_true]; first | rfl | (repeat (first | rw [if_pos (by omega)] | rw [if_neg (by omega)])))), ?_⟩
    all_goals repeat (first | (with_reducible exact below_alloc (Below.refl _ _) _) | (with_reducible refine below_step ?_ hb4) | (with_reducible refine below_step ?_ hb3) | (with_reducible refine below_step ?_ hb2) | (with_reducible refine below_step ?_ hb1))

/-! ### The program's floats taken apart -/
theorem impl_top16 : impl_format_top.f 10 15 = some 31 := by decide +kernel
theorem impl_top32 : impl_format_top.f 23 127 = some 255 := by decide +kernel
theorem impl_sign16 : impl_format_sign.f 10 15 = some 32768 := by decide +kernel
theorem impl_sign32 : impl_format_sign.f 23 127 = some 2147483648 := by decide +kernel
theorem nat_and_bit (b i : Nat) : b &&& 2 ^ i = if b / 2 ^ i % 2 = 1 then 2 ^ i else 0 := by
  apply Nat.eq_of_testBit_eq
  intro j
  rw [Nat.testBit_and, Nat.testBit_two_pow]
  by_cases hj : i = j
  · subst hj
    by_cases h : b / 2 ^ i % 2 = 1
    · rw [if_pos h, Nat.testBit_two_pow_self, Nat.testBit_eq_decide_div_mod_eq, decide_eq_true h]; simp
    · rw [if_neg h, Nat.testBit_eq_decide_div_mod_eq, decide_eq_false h]; simp
  · by_cases h : b / 2 ^ i % 2 = 1
    · rw [if_pos h, Nat.testBit_two_pow_of_ne hj]; simp [hj]
    · rw [if_neg h]; simp [hj]
theorem and_bit (i : Nat) (N : Nat) (hN : N = 2 ^ i) (hi : N < 4294967296) (a : Int) (ha0 : 0 ≤ a) (ha1 : a < 4294967296) : (bits .and .u32 a (N : Int) != 0) = (a / (N : Int) % 2 == 1) := by
  obtain ⟨b, rfl⟩ := Int.eq_ofNat_of_zero_le ha0
  have e1 : ∀ z : Nat, z < 4294967296 → (((z : Nat) : Int) % 2 ^ IntKind.u32.bits).toNat = z := by
    intro z hz; simp only [IntKind.bits]; omega
  have h3 := nat_and_bit b i
  rw [← hN] at h3
  rw [Pl.bits_and_nat, e1 b (by omega), e1 N hi, IntKind.wrap_u32, h3]
  have e4 : ((b : Nat) : Int) / (N : Int) % 2 = ((b / N % 2 : Nat) : Int) := by simp
  have hp : 0 < N := by rw [hN]; exact Nat.two_pow_pos i
  rw [e4]
  by_cases h : b / N % 2 = 1
  · rw [if_pos h, h, Int.emod_eq_of_lt (by omega) (by omega)]
    have hne : (N : Int) ≠ 0 := by omega
    rw [bne_iff_ne.2 hne]; rfl
  · rw [if_neg h, show b / N % 2 = 0 by omega]; rfl
theorem u64_id (x : Int) (h0 : 0 ≤ x) (h1 : x < 4294967296) : IntKind.u64.wrap x = x := by rw [Pl.wrap_u64]; omega
theorem impl_open16 (a : Int) (ha0 : 0 ≤ a) (ha1 : a < 4294967296) : impl_format_open.f 10 15 a = some ((op16 a).neg, (op16 a).nan, (op16 a).inf, (op16 a).m, (op16 a).e) := by
  have eN : (bits .and .u32 a 32768 != 0) = (a / 32768 % 2 == 1) := and_bit 15 32768 (by decide) (by decide) a ha0 ha1
  have eS : shr .u32 a 10 = a / 1024 := Pl.shr_at .u32 a 10 (by decide)
  have eX : bits .and .u32 (a / 1024) 31 = a / 1024 % 32 := and_low .u32 5 (by decide) _ _ (by decide)
  have eF : bits .and .u32 a 1023 = a % 1024 := and_low .u32 10 (by decide) _ _ (by decide)
  have c1 : (shl .u32 1 10 - 1) % 4294967296 = 1023 := by decide +kernel
  have c2 : shl .u64 1 10 = 1024 := by decide +kernel
  have c3 : wrap64 (wrap64 (1 - 15) - 10) = -24 := by decide +kernel
  unfold impl_format_open.f op16
  simp only [if_pos (show (0 : Int) ≤ 10 by decide), impl_top16, impl_sign16, Option.bind_some, eS, eX, eF, eN, c1, c2, c3, u64_id (a % 1024) (by omega) (by omega)]
  by_cases h1 : a / 1024 % 32 = 31
  · simp only [if_pos h1]
  · by_cases h2 : a / 1024 % 32 = 0
    · simp only [if_neg h1, if_pos h2]
    · have c4 : wrap64 (wrap64 (wrap64 (a / 1024 % 32) - 15) - 10) = -24 + a / 1024 % 32 - 1 := by unfold wrap64; omega
      simp only [if_neg h1, if_neg h2, c4, u64_id (a % 1024 + 1024) (by omega) (by omega)]
theorem impl_open32 (a : Int) (ha0 : 0 ≤ a) (ha1 : a < 4294967296) : impl_format_open.f 23 127 a = some ((op32 a).neg, (op32 a).nan, (op32 a).inf, (op32 a).m, (op32 a).e) := by
  have eN : (bits .and .u32 a 2147483648 != 0) = (a / 2147483648 % 2 == 1) := and_bit 31 2147483648 (by decide) (by decide) a ha0 ha1
  have eS : shr .u32 a 23 = a / 8388608 := Pl.shr_at .u32 a 23 (by decide)
  have eX : bits .and .u32 (a / 8388608) 255 = a / 8388608 % 256 := and_low .u32 8 (by decide) _ _ (by decide)
  have eF : bits .and .u32 a 8388607 = a % 8388608 := and_low .u32 23 (by decide) _ _ (by decide)
  have c1 : (shl .u32 1 23 - 1) % 4294967296 = 8388607 := by decide +kernel
  have c2 : shl .u64 1 23 = 8388608 := by decide +kernel
  have c3 : wrap64 (wrap64 (1 - 127) - 23) = -149 := by decide +kernel
  unfold impl_format_open.f op32
  simp only [if_pos (show (0 : Int) ≤ 23 by decide), impl_top32, impl_sign32, Option.bind_some, eS, eX, eF, eN, c1, c2, c3, u64_id (a % 8388608) (by omega) (by omega)]
  by_cases h1 : a / 8388608 % 256 = 255
  · simp only [if_pos h1]
  · by_cases h2 : a / 8388608 % 256 = 0
    · simp only [if_neg h1, if_pos h2]
    · have c4 : wrap64 (wrap64 (wrap64 (a / 8388608 % 256) - 127) - 23) = -149 + a / 8388608 % 256 - 1 := by unfold wrap64; omega
      simp only [if_neg h1, if_neg h2, c4, u64_id (a % 8388608 + 8388608) (by omega) (by omega)]

/-! #### kind 16: the program's order and comparison -/
theorem impl_order16 (a : Int) (ha0 : 0 ≤ a) (ha1 : a < 4294967296) : impl_format_order.f 10 15 a = some (if a / 32768 % 2 = 1 then -(a % 32768) - 1 else a % 32768) := by
  have eN : (bits .and .u32 a 32768 != 0) = (a / 32768 % 2 == 1) := and_bit 15 32768 (by decide) (by decide) a ha0 ha1
  have eM : bits .and .u32 a 32767 = a % 32768 := and_low .u32 15 (by decide) _ _ (by decide)
  unfold impl_format_order.f
  simp only [impl_sign16, Option.bind_some, show ((32768 : Int) - 1) % 4294967296 = 32767 by decide, eM]
  have w1 : wrap64 (a % 32768) = a % 32768 := Pl.w64 (by omega) (by omega)
  have w2 : wrap64 (-(a % 32768)) = -(a % 32768) := Pl.w64 (by omega) (by omega)
  have w3 : wrap64 (-(a % 32768) - 1) = -(a % 32768) - 1 := Pl.w64 (by omega) (by omega)
  rw [w1, w2, w3]
  by_cases h : a / 32768 % 2 = 1
  · have : ¬ bits .and .u32 a 32768 = 0 := by
      rw [h] at eN; exact bne_iff_ne.1 eN
    rw [if_neg this, if_pos h]
  · have : bits .and .u32 a 32768 = 0 := by
      rw [beq_eq_false_iff_ne.2 h] at eN; exact bne_eq_false_iff_eq.1 eN
    rw [if_pos this, if_neg h]
theorem zero16 (a : Int) (ha0 : 0 ≤ a) (ha1 : a < 4294967296) : ((op16 a).inf = false ∧ (op16 a).m = 0 ∧ (op16 a).nan = false) ↔ a % 32768 = 0 := by
  unfold op16
  by_cases h1 : a / 1024 % 32 = 31
  · rw [if_pos h1]
    simp
    omega
  · by_cases h2 : a / 1024 % 32 = 0
    · rw [if_neg h1, if_pos h2]; simp; omega
    · rw [if_neg h1, if_neg h2]; simp; omega
theorem impl_cmp16 (a b : Int) (ha0 : 0 ≤ a) (ha1 : a < 4294967296) (hb0 : 0 ≤ b) (hb1 : b < 4294967296) : impl_FCompare.f 3 16 a b = some (cmpM (op16 a).nan (op16 b).nan (ord16 a) (ord16 b)) := by
  have za := zero16 a ha0 ha1
  have zb := zero16 b hb0 hb1
  unfold impl_FCompare.f
  rw [show impl_formatOf.f 16 = some (10, 15, true) from rfl]
  simp only [Option.bind_some, if_true, impl_open16 a ha0 ha1, impl_open16 b hb0 hb1]
  unfold ord16
  generalize op16 a = f at *
  generalize op16 b = g at *
  obtain ⟨neg, inf, nan, m, e⟩ := f
  obtain ⟨neg', inf', nan', m', e'⟩ := g
  simp only at za zb ⊢
  cases nan with
  | true => simp [impl_FCompare.j0, cmpM]
  | false =>
    cases nan' with
    | true => simp [impl_FCompare.j0, cmpM]
    | false =>
      have nb : impl_FCompare.j1 2 a b false 10 15 = some (if (if a / 32768 % 2 = 1 then -(a % 32768) - 1 else a % 32768) < (if b / 32768 % 2 = 1 then -(b % 32768) - 1 else b % 32768) then -1 else if (if a / 32768 % 2 = 1 then -(a % 32768) - 1 else a % 32768) > (if b / 32768 % 2 = 1 then -(b % 32768) - 1 else b % 32768) then 1 else 0) := by
        simp only [impl_FCompare.j1, impl_order16 a ha0 ha1, impl_order16 b hb0 hb1, Option.bind_some, Bool.false_eq_true, if_false]
        generalize (if a / 32768 % 2 = 1 then -(a % 32768) - 1 else a % 32768) = x
        generalize (if b / 32768 % 2 = 1 then -(b % 32768) - 1 else b % 32768) = y
        by_cases h : x < y
        · rw [if_pos h, if_pos h]
        · rw [if_neg h, if_neg h]
          by_cases h' : x > y
          · rw [if_pos h', if_pos h']
          · rw [if_neg h', if_neg h']
      have fin : (¬ (a % 32768 = 0 ∧ b % 32768 = 0)) → impl_FCompare.j1 2 a b false 10 15 = some (cmpM false false (if a / 32768 % 2 = 1 then -(a % 32768) else a % 32768) (if b / 32768 % 2 = 1 then -(b % 32768) else b % 32768)) := by
        intro hnz
        rw [nb]
        unfold cmpM
        by_cases s1 : a / 32768 % 2 = 1 <;> by_cases s2 : b / 32768 % 2 = 1 <;> simp only [s1, s2, if_true, if_false, Bool.or_self, Bool.false_eq_true] <;> (congr 1; repeat' split) <;> omega
      have zz : (a % 32768 = 0 ∧ b % 32768 = 0) → cmpM false false (if a / 32768 % 2 = 1 then -(a % 32768) else a % 32768) (if b / 32768 % 2 = 1 then -(b % 32768) else b % 32768) = 0 := by
        intro ⟨h1, h2⟩
        rw [h1, h2]
        unfold cmpM
        simp
      simp only [impl_FCompare.j0, Bool.false_eq_true, if_false]
      cases inf with
      | true =>
        simp only [if_true]
        exact fin (by simp at za; omega)
      | false =>
        simp only [Bool.false_eq_true, if_false]
        cases inf' with
        | true =>
          simp only [if_true]
          exact fin (by simp at zb; omega)
        | false =>
          simp only [Bool.false_eq_true, if_false]
          by_cases hm : m = 0
          · rw [if_pos hm]
            by_cases hm' : m' = 0
            · rw [show (m' == 0) = true from beq_iff_eq.2 hm', zz ⟨za.1 ⟨rfl, hm, rfl⟩, zb.1 ⟨rfl, hm', rfl⟩⟩]
              simp [impl_FCompare.j1]
            · rw [show (m' == 0) = false from beq_eq_false_iff_ne.2 hm']
              exact fin (fun h => hm' (zb.2 h.2).2.1)
          · rw [if_neg hm]
            exact fin (fun h => hm (za.2 h.1).2.1)
theorem specF16 (a b : Int) (ha0 : 0 ≤ a) (ha1 : a < 4294967296) (hb0 : 0 ≤ b) (hb1 : b < 4294967296) (w : World) : Calls Try.prog 43 #[.int .i64 16, .int .u32 a, .int .u32 b] w fun e w' => e = .returned (.int .i64 (cmpM (op16 a).nan (op16 b).nan (ord16 a) (ord16 b))) ∧ Below w.heap.size w w' := by
  have c := fun w => compare16 a b ha0 ha1 hb0 hb1 w
  generalize cmpM (op16 a).nan (op16 b).nan (ord16 a) (ord16 b) = r at *
  clear ha0 ha1 hb0 hb1
  go_enter Try.func43, Try.ntmps43
  go_wp2_with (first | (go_at_call 60; refine (kind16 _).mono ?_; rintro e w1 ⟨rfl, hb1⟩) | (go_at_call 73; refine (c _).mono ?_; rintro e w2 ⟨rfl, hb2⟩))
  go_ret
  exact ⟨rfl, by repeat (first | (with_reducible exact Below.refl _ _) | (with_reducible refine below_step ?_ hb2) | (with_reducible refine below_alloc ?_ _) | (with_reducible refine below_step ?_ hb1) | (with_reducible refine below_set ?_ (by simp)))⟩

/-! #### kind 32: the program's order and comparison -/
theorem impl_order32 (a : Int) (ha0 : 0 ≤ a) (ha1 : a < 4294967296) : impl_format_order.f 23 127 a = some (if a / 2147483648 % 2 = 1 then -(a % 2147483648) - 1 else a % 2147483648) := by
  have eN : (bits .and .u32 a 2147483648 != 0) = (a / 2147483648 % 2 == 1) := and_bit 31 2147483648 (by decide) (by decide) a ha0 ha1
  have eM : bits .and .u32 a 2147483647 = a % 2147483648 := and_low .u32 31 (by decide) _ _ (by decide)
  unfold impl_format_order.f
  simp only [impl_sign32, Option.bind_some, show ((2147483648 : Int) - 1) % 4294967296 = 2147483647 by decide, eM]
  have w1 : wrap64 (a % 2147483648) = a % 2147483648 := Pl.w64 (by omega) (by omega)
  have w2 : wrap64 (-(a % 2147483648)) = -(a % 2147483648) := Pl.w64 (by omega) (by omega)
  have w3 : wrap64 (-(a % 2147483648) - 1) = -(a % 2147483648) - 1 := Pl.w64 (by omega) (by omega)
  rw [w1, w2, w3]
  by_cases h : a / 2147483648 % 2 = 1
  · have : ¬ bits .and .u32 a 2147483648 = 0 := by
      rw [h] at eN; exact bne_iff_ne.1 eN
    rw [if_neg this, if_pos h]
  · have : bits .and .u32 a 2147483648 = 0 := by
      rw [beq_eq_false_iff_ne.2 h] at eN; exact bne_eq_false_iff_eq.1 eN
    rw [if_pos this, if_neg h]
theorem zero32 (a : Int) (ha0 : 0 ≤ a) (ha1 : a < 4294967296) : ((op32 a).inf = false ∧ (op32 a).m = 0 ∧ (op32 a).nan = false) ↔ a % 2147483648 = 0 := by
  unfold op32
  by_cases h1 : a / 8388608 % 256 = 255
  · rw [if_pos h1]
    simp
    omega
  · by_cases h2 : a / 8388608 % 256 = 0
    · rw [if_neg h1, if_pos h2]; simp; omega
    · rw [if_neg h1, if_neg h2]; simp; omega
theorem impl_cmp32 (a b : Int) (ha0 : 0 ≤ a) (ha1 : a < 4294967296) (hb0 : 0 ≤ b) (hb1 : b < 4294967296) : impl_FCompare.f 3 32 a b = some (cmpM (op32 a).nan (op32 b).nan (ord32 a) (ord32 b)) := by
  have za := zero32 a ha0 ha1
  have zb := zero32 b hb0 hb1
  unfold impl_FCompare.f
  rw [show impl_formatOf.f 32 = some (23, 127, true) from rfl]
  simp only [Option.bind_some, if_true, impl_open32 a ha0 ha1, impl_open32 b hb0 hb1]
  unfold ord32
  generalize op32 a = f at *
  generalize op32 b = g at *
  obtain ⟨neg, inf, nan, m, e⟩ := f
  obtain ⟨neg', inf', nan', m', e'⟩ := g
  simp only at za zb ⊢
  cases nan with
  | true => simp [impl_FCompare.j0, cmpM]
  | false =>
    cases nan' with
    | true => simp [impl_FCompare.j0, cmpM]
    | false =>
      have nb : impl_FCompare.j1 2 a b false 23 127 = some (if (if a / 2147483648 % 2 = 1 then -(a % 2147483648) - 1 else a % 2147483648) < (if b / 2147483648 % 2 = 1 then -(b % 2147483648) - 1 else b % 2147483648) then -1 else if (if a / 2147483648 % 2 = 1 then -(a % 2147483648) - 1 else a % 2147483648) > (if b / 2147483648 % 2 = 1 then -(b % 2147483648) - 1 else b % 2147483648) then 1 else 0) := by
        simp only [impl_FCompare.j1, impl_order32 a ha0 ha1, impl_order32 b hb0 hb1, Option.bind_some, Bool.false_eq_true, if_false]
        generalize (if a / 2147483648 % 2 = 1 then -(a % 2147483648) - 1 else a % 2147483648) = x
        generalize (if b / 2147483648 % 2 = 1 then -(b % 2147483648) - 1 else b % 2147483648) = y
        by_cases h : x < y
        · rw [if_pos h, if_pos h]
        · rw [if_neg h, if_neg h]
          by_cases h' : x > y
          · rw [if_pos h', if_pos h']
          · rw [if_neg h', if_neg h']
      have fin : (¬ (a % 2147483648 = 0 ∧ b % 2147483648 = 0)) → impl_FCompare.j1 2 a b false 23 127 = some (cmpM false false (if a / 2147483648 % 2 = 1 then -(a % 2147483648) else a % 2147483648) (if b / 2147483648 % 2 = 1 then -(b % 2147483648) else b % 2147483648)) := by
        intro hnz
        rw [nb]
        unfold cmpM
        by_cases s1 : a / 2147483648 % 2 = 1 <;> by_cases s2 : b / 2147483648 % 2 = 1 <;> simp only [s1, s2, if_true, if_false, Bool.or_self, Bool.false_eq_true] <;> (congr 1; repeat' split) <;> omega
      have zz : (a % 2147483648 = 0 ∧ b % 2147483648 = 0) → cmpM false false (if a / 2147483648 % 2 = 1 then -(a % 2147483648) else a % 2147483648) (if b / 2147483648 % 2 = 1 then -(b % 2147483648) else b % 2147483648) = 0 := by
        intro ⟨h1, h2⟩
        rw [h1, h2]
        unfold cmpM
        simp
      simp only [impl_FCompare.j0, Bool.false_eq_true, if_false]
      cases inf with
      | true =>
        simp only [if_true]
        exact fin (by simp at za; omega)
      | false =>
        simp only [Bool.false_eq_true, if_false]
        cases inf' with
        | true =>
          simp only [if_true]
          exact fin (by simp at zb; omega)
        | false =>
          simp only [Bool.false_eq_true, if_false]
          by_cases hm : m = 0
          · rw [if_pos hm]
            by_cases hm' : m' = 0
            · rw [show (m' == 0) = true from beq_iff_eq.2 hm', zz ⟨za.1 ⟨rfl, hm, rfl⟩, zb.1 ⟨rfl, hm', rfl⟩⟩]
              simp [impl_FCompare.j1]
            · rw [show (m' == 0) = false from beq_eq_false_iff_ne.2 hm']
              exact fin (fun h => hm' (zb.2 h.2).2.1)
          · rw [if_neg hm]
            exact fin (fun h => hm (za.2 h.1).2.1)
theorem specF32 (a b : Int) (ha0 : 0 ≤ a) (ha1 : a < 4294967296) (hb0 : 0 ≤ b) (hb1 : b < 4294967296) (w : World) : Calls Try.prog 43 #[.int .i64 32, .int .u32 a, .int .u32 b] w fun e w' => e = .returned (.int .i64 (cmpM (op32 a).nan (op32 b).nan (ord32 a) (ord32 b))) ∧ Below w.heap.size w w' := by
  have c := fun w => compare32 a b ha0 ha1 hb0 hb1 w
  generalize cmpM (op32 a).nan (op32 b).nan (ord32 a) (ord32 b) = r at *
  clear ha0 ha1 hb0 hb1
  go_enter Try.func43, Try.ntmps43
  go_wp2_with (first | (go_at_call 60; refine (kind32 _).mono ?_; rintro e w1 ⟨rfl, hb1⟩) | (go_at_call 73; refine (c _).mono ?_; rintro e w2 ⟨rfl, hb2⟩))
  go_ret
  exact ⟨rfl, by repeat (first | (with_reducible exact Below.refl _ _) | (with_reducible refine below_step ?_ hb2) | (with_reducible refine below_alloc ?_ _) | (with_reducible refine below_step ?_ hb1) | (with_reducible refine below_set ?_ (by simp)))⟩

theorem specF_else (k a b : Int) (h : k ≠ 16 ∧ k ≠ 32) (w : World) : Calls Try.prog 43 #[.int .i64 k, .int .u32 a, .int .u32 b] w fun e w' => e = .returned (.int .i64 0) ∧ Below w.heap.size w w' := by
  have c := fun w => kind_else k h w
  clear h
  go_enter Try.func43, Try.ntmps43
  go_wp2_with (go_at_call 60; refine (c _).mono ?_; rintro e w1 ⟨rfl, hb1⟩)
  go_ret
  exact ⟨rfl, by repeat (first | (with_reducible exact Below.refl _ _) | (with_reducible refine below_alloc ?_ _) | (with_reducible refine below_step ?_ hb1) | (with_reducible refine below_set ?_ (by simp)))⟩
theorem both (k a b : Int) (ha0 : 0 ≤ a) (ha1 : a < 4294967296) (hb0 : 0 ≤ b) (hb1 : b < 4294967296) : ∃ r : Int, ∀ w : World, (Calls Try.prog 43 #[.int .i64 k, .int .u32 a, .int .u32 b] w fun en w' => en = .returned (.int .i64 r) ∧ Below w.heap.size w w') ∧
    (Calls Try.prog 44 #[.int .i64 k, .int .u32 a, .int .u32 b] w fun en w' => en = .returned (.int .i64 r) ∧ Below w.heap.size w w') := by
  by_cases h16 : k = 16
  · subst h16
    exact ⟨_, fun w => ⟨specF16 a b ha0 ha1 hb0 hb1 w, impl_FCompare.calls _ _ _ _ _ w (impl_cmp16 a b ha0 ha1 hb0 hb1)⟩⟩
  · by_cases h32 : k = 32
    · subst h32
      exact ⟨_, fun w => ⟨specF32 a b ha0 ha1 hb0 hb1 w, impl_FCompare.calls _ _ _ _ _ w (impl_cmp32 a b ha0 ha1 hb0 hb1)⟩⟩
    · have hi2 : impl_FCompare.f 0 k a b = some 0 := by
        unfold impl_FCompare.f impl_formatOf.f
        rw [if_neg h16, if_neg h32]
        rfl
      exact ⟨_, fun w => ⟨specF_else k a b ⟨h16, h32⟩ w, impl_FCompare.calls _ _ _ _ _ w hi2⟩⟩
theorem law (k a b : Int) (ha0 : 0 ≤ a) (ha1 : a < 4294967296) (hb0 : 0 ≤ b) (hb1 : b < 4294967296) (w : World) : Calls Try.prog 14 #[.int .i64 k, .int .u32 a, .int .u32 b] w fun e w' => e = .returned (.bool true) ∧ Below w.heap.size w w' := by
  obtain ⟨r, hc⟩ := both k a b ha0 ha1 hb0 hb1
  clear ha0 ha1 hb0 hb1
  go_enter Try.func14, Try.ntmps14
  go_wp2_with (first | (go_at_call 43; refine (hc _).1.mono ?_; rintro e w1 ⟨rfl, hb1⟩) | (go_at_call 44; refine (hc _).2.mono ?_; rintro e w2 ⟨rfl, hb2⟩))
  go_ret
  exact ⟨by simp, below_step hb1 hb2⟩

end Go.Proofs.Ythpmpjejjbhkjaa.OwnFCompare
