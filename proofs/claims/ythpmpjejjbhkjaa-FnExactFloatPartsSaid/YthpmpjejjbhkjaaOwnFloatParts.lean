/- FloatParts: walks of our own of the reference's function and of the statement's; the program's by its printed walk; no condition beside a number's range. -/
import Derived.Test.YthpmpjejjbhkjaaOwnFloat
import Derived.Test.YthpmpjejjbhkjaaPFloatPartsx
import Derived.Deep.QuietTactic
import Derived.BigQuiet
namespace Go.Proofs.Ythpmpjejjbhkjaa.OwnFloatParts
open Go Go.RowKit Go.Proofs.YthpmpjejjbhkjaaW.PrintWords Go.Proofs.YthpmpjejjbhkjaaW.PrintLast Go.Proofs.YthpmpjejjbhkjaaW.PrintMore Go.Proofs.Ythpmpjejjbhkjaa.OwnFloat Go.Proofs.Ythpmpjejjbhkjaa.PFloatParts
set_option linter.unusedVariables false
set_option linter.unusedSimpArgs false
/-! ### The program's floats taken apart -/
theorem impl_top16 : impl_format_top.f 10 15 = some 31 := by decide +kernel
theorem impl_top32 : impl_format_top.f 23 127 = some 255 := by decide +kernel
theorem impl_sign16 : impl_format_sign.f 10 15 = some 32768 := by decide +kernel
theorem impl_sign32 : impl_format_sign.f 23 127 = some 2147483648 := by decide +kernel
theorem nat_and_bit (b i : Nat) : b &&& 2 ^ i = if b / 2 ^ i % 2 = 1 then 2 ^ i else 0 := by
  apply Nat.eq_of_testBit_eq
  intro j
  rw [Nat.testBit_and, Nat.testBit_two_pow]
  by_cases hj : i = j
  · subst hj
    by_cases h : b / 2 ^ i % 2 = 1
    · rw [if_pos h, Nat.testBit_two_pow_self, Nat.testBit_eq_decide_div_mod_eq, decide_eq_true h]; simp
    · rw [if_neg h, Nat.testBit_eq_decide_div_mod_eq, decide_eq_false h]; simp
  · by_cases h : b / 2 ^ i % 2 = 1
    · rw [if_pos h, Nat.testBit_two_pow_of_ne hj]; simp [hj]
    · rw [if_neg h]; simp [hj]
theorem and_bit (i : Nat) (N : Nat) (hN : N = 2 ^ i) (hi : N < 4294967296) (a : Int) (ha0 : 0 ≤ a) (ha1 : a < 4294967296) : (bits .and .u32 a (N : Int) != 0) = (a / (N : Int) % 2 == 1) := by
  obtain ⟨b, rfl⟩ := Int.eq_ofNat_of_zero_le ha0
  have e1 : ∀ z : Nat, z < 4294967296 → (((z : Nat) : Int) % 2 ^ IntKind.u32.bits).toNat = z := by
    intro z hz; simp only [IntKind.bits]; omega
  have h3 := nat_and_bit b i
  rw [← hN] at h3
  rw [Pl.bits_and_nat, e1 b (by omega), e1 N hi, IntKind.wrap_u32, h3]
  have e4 : ((b : Nat) : Int) / (N : Int) % 2 = ((b / N % 2 : Nat) : Int) := by simp
  have hp : 0 < N := by rw [hN]; exact Nat.two_pow_pos i
  rw [e4]
  by_cases h : b / N % 2 = 1
  · rw [if_pos h, h, Int.emod_eq_of_lt (by omega) (by omega)]
    have hne : (N : Int) ≠ 0 := by omega
    rw [bne_iff_ne.2 hne]; rfl
  · rw [if_neg h, show b / N % 2 = 0 by omega]; rfl
theorem u64_id (x : Int) (h0 : 0 ≤ x) (h1 : x < 4294967296) : IntKind.u64.wrap x = x := by rw [Pl.wrap_u64]; omega
theorem impl_open16 (a : Int) (ha0 : 0 ≤ a) (ha1 : a < 4294967296) : impl_format_open.f 10 15 a = some ((op16 a).neg, (op16 a).nan, (op16 a).inf, (op16 a).m, (op16 a).e) := by
  have eN : (bits .and .u32 a 32768 != 0) = (a / 32768 % 2 == 1) := and_bit 15 32768 (by decide) (by decide) a ha0 ha1
  have eS : shr .u32 a 10 = a / 1024 := Pl.shr_at .u32 a 10 (by decide)
  have eX : bits .and .u32 (a / 1024) 31 = a / 1024 % 32 := and_low .u32 5 (by decide) _ _ (by decide)
  have eF : bits .and .u32 a 1023 = a % 1024 := and_low .u32 10 (by decide) _ _ (by decide)
  have c1 : (shl .u32 1 10 - 1) % 4294967296 = 1023 := by decide +kernel
  have c2 : shl .u64 1 10 = 1024 := by decide +kernel
  have c3 : wrap64 (wrap64 (1 - 15) - 10) = -24 := by decide +kernel
  unfold impl_format_open.f op16
  simp only [if_pos (show (0 : Int) ≤ 10 by decide), impl_top16, impl_sign16, Option.bind_some, eS, eX, eF, eN, c1, c2, c3, u64_id (a % 1024) (by omega) (by omega)]
  by_cases h1 : a / 1024 % 32 = 31
  · simp only [if_pos h1]
  · by_cases h2 : a / 1024 % 32 = 0
    · simp only [if_neg h1, if_pos h2]
    · have c4 : wrap64 (wrap64 (wrap64 (a / 1024 % 32) - 15) - 10) = -24 + a / 1024 % 32 - 1 := by unfold wrap64; omega
      simp only [if_neg h1, if_neg h2, c4, u64_id (a % 1024 + 1024) (by omega) (by omega)]
theorem impl_open32 (a : Int) (ha0 : 0 ≤ a) (ha1 : a < 4294967296) : impl_format_open.f 23 127 a = some ((op32 a).neg, (op32 a).nan, (op32 a).inf, (op32 a).m, (op32 a).e) := by
  have eN : (bits .and .u32 a 2147483648 != 0) = (a / 2147483648 % 2 == 1) := and_bit 31 2147483648 (by decide) (by decide) a ha0 ha1
  have eS : shr .u32 a 23 = a / 8388608 := Pl.shr_at .u32 a 23 (by decide)
  have eX : bits .and .u32 (a / 8388608) 255 = a / 8388608 % 256 := and_low .u32 8 (by decide) _ _ (by decide)
  have eF : bits .and .u32 a 8388607 = a % 8388608 := and_low .u32 23 (by decide) _ _ (by decide)
  have c1 : (shl .u32 1 23 - 1) % 4294967296 = 8388607 := by decide +kernel
  have c2 : shl .u64 1 23 = 8388608 := by decide +kernel
  have c3 : wrap64 (wrap64 (1 - 127) - 23) = -149 := by decide +kernel
  unfold impl_format_open.f op32
  simp only [if_pos (show (0 : Int) ≤ 23 by decide), impl_top32, impl_sign32, Option.bind_some, eS, eX, eF, eN, c1, c2, c3, u64_id (a % 8388608) (by omega) (by omega)]
  by_cases h1 : a / 8388608 % 256 = 255
  · simp only [if_pos h1]
  · by_cases h2 : a / 8388608 % 256 = 0
    · simp only [if_neg h1, if_pos h2]
    · have c4 : wrap64 (wrap64 (wrap64 (a / 8388608 % 256) - 127) - 23) = -149 + a / 8388608 % 256 - 1 := by unfold wrap64; omega
      simp only [if_neg h1, if_neg h2, c4, u64_id (a % 8388608 + 8388608) (by omega) (by omega)]

/-- What FloatParts tells of a float taken apart. -/
def parts (f : FP) : Value := if f.inf || f.nan then .tuple #[.bool false, .int .u64 0, .int .i64 0, .bool false] else .tuple #[.bool f.neg, .int .u64 f.m, .int .i64 f.e, .bool true]
theorem retv {a b : Value} (h : a = b) : Ending.returned a = .returned b := by rw [h]

set_option maxHeartbeats 1000000 in
theorem spec16 (a : Int) (ha0 : 0 ≤ a) (ha1 : a < 4294967296) (w : World) : Calls Try.prog 34 #[.int .i64 16, .int .u32 a] w fun e w' => e = .returned (parts (op16 a)) ∧ Below w.heap.size w w' := by
  have c := fun w => open16 a ha0 ha1 w
  generalize op16 a = f at *
  obtain ⟨neg, inf, nan, m, e⟩ := f
  simp only [FP.val] at c
  cases inf with
  | true =>
    show Calls _ _ _ _ (fun e' w' => e' = .returned (.tuple #[.bool false, .int .u64 0, .int .i64 0, .bool false]) ∧ _)
    go_enter Try.func34, Try.ntmps34
    go_wp2_with (first | (go_at_call 60; refine (kind16 _).mono ?_; rintro e w1 ⟨rfl, hb1⟩) | (go_at_call 61; refine (c _).mono ?_; rintro e w2 ⟨rfl, hb2⟩))
    refine bodyPost_ret (v := .tuple #[.bool false, .int .u64 0, .int .i64 0, .bool false]) (by simp [results, Try.results34, go_sem]) rfl ⟨rfl, ?_⟩
    repeat (first | (with_reducible exact Below.refl _ _) | (with_reducible refine below_alloc ?_ _) | (with_reducible refine below_step ?_ hb2) | (with_reducible refine below_step ?_ hb1) | (with_reducible refine pw_below_drewN ?_ _) | (with_reducible refine below_drew1 ?_) | (with_reducible refine below_set ?_ (by simp)))
  | false =>
    cases nan with
    | true =>
      show Calls _ _ _ _ (fun e' w' => e' = .returned (.tuple #[.bool false, .int .u64 0, .int .i64 0, .bool false]) ∧ _)
      go_enter Try.func34, Try.ntmps34
      go_wp2_with (first | (go_at_call 60; refine (kind16 _).mono ?_; rintro e w1 ⟨rfl, hb1⟩) | (go_at_call 61; refine (c _).mono ?_; rintro e w2 ⟨rfl, hb2⟩))
      refine bodyPost_ret (v := .tuple #[.bool false, .int .u64 0, .int .i64 0, .bool false]) (by simp [results, Try.results34, go_sem]) rfl ⟨rfl, ?_⟩
      repeat (first | (with_reducible exact Below.refl _ _) | (with_reducible refine below_alloc ?_ _) | (with_reducible refine below_step ?_ hb2) | (with_reducible refine below_step ?_ hb1) | (with_reducible refine pw_below_drewN ?_ _) | (with_reducible refine below_drew1 ?_) | (with_reducible refine below_set ?_ (by simp)))
    | false =>
      show Calls _ _ _ _ (fun e' w' => e' = .returned (.tuple #[.bool neg, .int .u64 m, .int .i64 e, .bool true]) ∧ _)
      go_enter Try.func34, Try.ntmps34
      go_wp2_with (first | (go_at_call 60; refine (kind16 _).mono ?_; rintro e w1 ⟨rfl, hb1⟩) | (go_at_call 61; refine (c _).mono ?_; rintro e w2 ⟨rfl, hb2⟩))
      go_quiet (fail)
      go_wp2
      refine bodyPost_ret (v := .tuple #[.bool neg, .int .u64 m, .int .i64 e, .bool true]) (by simp [results, Try.results34, go_sem]) rfl ⟨rfl, ?_⟩
      repeat (first | (with_reducible exact Below.refl _ _) | (with_reducible refine below_alloc ?_ _) | (with_reducible refine below_step ?_ hb2) | (with_reducible refine below_step ?_ hb1) | (with_reducible refine pw_below_drewN ?_ _) | (with_reducible refine below_drew1 ?_) | (with_reducible refine below_set ?_ (by simp)))

set_option maxHeartbeats 1000000 in
theorem spec32 (a : Int) (ha0 : 0 ≤ a) (ha1 : a < 4294967296) (w : World) : Calls Try.prog 34 #[.int .i64 32, .int .u32 a] w fun e w' => e = .returned (parts (op32 a)) ∧ Below w.heap.size w w' := by
  have c := fun w => open32 a ha0 ha1 w
  generalize op32 a = f at *
  obtain ⟨neg, inf, nan, m, e⟩ := f
  simp only [FP.val] at c
  cases inf with
  | true =>
    show Calls _ _ _ _ (fun e' w' => e' = .returned (.tuple #[.bool false, .int .u64 0, .int .i64 0, .bool false]) ∧ _)
    go_enter Try.func34, Try.ntmps34
    go_wp2_with (first | (go_at_call 60; refine (kind32 _).mono ?_; rintro e w1 ⟨rfl, hb1⟩) | (go_at_call 61; refine (c _).mono ?_; rintro e w2 ⟨rfl, hb2⟩))
    refine bodyPost_ret (v := .tuple #[.bool false, .int .u64 0, .int .i64 0, .bool false]) (by simp [results, Try.results34, go_sem]) rfl ⟨rfl, ?_⟩
    repeat (first | (with_reducible exact Below.refl _ _) | (with_reducible refine below_alloc ?_ _) | (with_reducible refine below_step ?_ hb2) | (with_reducible refine below_step ?_ hb1) | (with_reducible refine pw_below_drewN ?_ _) | (with_reducible refine below_drew1 ?_) | (with_reducible refine below_set ?_ (by simp)))
  | false =>
    cases nan with
    | true =>
      show Calls _ _ _ _ (fun e' w' => e' = .returned (.tuple #[.bool false, .int .u64 0, .int .i64 0, .bool false]) ∧ _)
      go_enter Try.func34, Try.ntmps34
      go_wp2_with (first | (go_at_call 60; refine (kind32 _).mono ?_; rintro e w1 ⟨rfl, hb1⟩) | (go_at_call 61; refine (c _).mono ?_; rintro e w2 ⟨rfl, hb2⟩))
      refine bodyPost_ret (v := .tuple #[.bool false, .int .u64 0, .int .i64 0, .bool false]) (by simp [results, Try.results34, go_sem]) rfl ⟨rfl, ?_⟩
      repeat (first | (with_reducible exact Below.refl _ _) | (with_reducible refine below_alloc ?_ _) | (with_reducible refine below_step ?_ hb2) | (with_reducible refine below_step ?_ hb1) | (with_reducible refine pw_below_drewN ?_ _) | (with_reducible refine below_drew1 ?_) | (with_reducible refine below_set ?_ (by simp)))
    | false =>
      show Calls _ _ _ _ (fun e' w' => e' = .returned (.tuple #[.bool neg, .int .u64 m, .int .i64 e, .bool true]) ∧ _)
      go_enter Try.func34, Try.ntmps34
      go_wp2_with (first | (go_at_call 60; refine (kind32 _).mono ?_; rintro e w1 ⟨rfl, hb1⟩) | (go_at_call 61; refine (c _).mono ?_; rintro e w2 ⟨rfl, hb2⟩))
      go_quiet (fail)
      go_wp2
      refine bodyPost_ret (v := .tuple #[.bool neg, .int .u64 m, .int .i64 e, .bool true]) (by simp [results, Try.results34, go_sem]) rfl ⟨rfl, ?_⟩
      repeat (first | (with_reducible exact Below.refl _ _) | (with_reducible refine below_alloc ?_ _) | (with_reducible refine below_step ?_ hb2) | (with_reducible refine below_step ?_ hb1) | (with_reducible refine pw_below_drewN ?_ _) | (with_reducible refine below_drew1 ?_) | (with_reducible refine below_set ?_ (by simp)))

theorem spec_else (k a : Int) (h : k ≠ 16 ∧ k ≠ 32) (w : World) : Calls Try.prog 34 #[.int .i64 k, .int .u32 a] w fun e w' => e = .returned (.tuple #[.bool false, .int .u64 0, .int .i64 0, .bool false]) ∧ Below w.heap.size w w' := by
  have h1 : (k == 16) = false := beq_eq_false_iff_ne.2 h.1
  have h2 : (k == 32) = false := beq_eq_false_iff_ne.2 h.2
  clear h
  have c : ∀ w : World, Calls Try.prog 60 #[.int .i64 k] w fun e w' => e = .returned (.tuple #[.agg #[.int .u64 0, .int .u64 0], .bool false]) ∧ Below w.heap.size w w' := by
    intro w
    go_enter Try.func60, Try.ntmps60
    go_wp2
    refine bodyPost_ret (v := .tuple #[.agg #[.int .u64 0, .int .u64 0], .bool false]) (by simp [results, Try.results60, go_sem]) rfl ⟨rfl, ?_⟩
    repeat (first | (with_reducible exact Below.refl _ _) | (with_reducible refine below_alloc ?_ _) | (with_reducible refine below_set ?_ (by simp)))
  go_enter Try.func34, Try.ntmps34
  go_wp2_with (go_at_call 60; refine (c _).mono ?_; rintro e w1 ⟨rfl, hb1⟩)
  refine bodyPost_ret (v := .tuple #[.bool false, .int .u64 0, .int .i64 0, .bool false]) (by simp [results, Try.results34, go_sem]) rfl ⟨rfl, ?_⟩
  repeat (first | (with_reducible exact Below.refl _ _) | (with_reducible refine below_alloc ?_ _) | (with_reducible refine below_step ?_ hb1) | (with_reducible refine below_set ?_ (by simp)))
theorem both (k a : Int) (ha0 : 0 ≤ a) (ha1 : a < 4294967296) : ∃ (b0 : Bool) (m e : Int) (b3 : Bool), ∀ w : World, (Calls Try.prog 34 #[.int .i64 k, .int .u32 a] w fun en w' => en = .returned (.tuple #[.bool b0, .int .u64 m, .int .i64 e, .bool b3]) ∧ Below w.heap.size w w') ∧
    (Calls Try.prog 35 #[.int .i64 k, .int .u32 a] w fun en w' => en = .returned (.tuple #[.bool b0, .int .u64 m, .int .i64 e, .bool b3]) ∧ Below w.heap.size w w') := by
  by_cases h16 : k = 16
  · subst h16
    have hi := impl_open16 a ha0 ha1
    have hs := fun w => spec16 a ha0 ha1 w
    have hf : ∀ f : FP, impl_format_open.f 10 15 a = some (f.neg, f.nan, f.inf, f.m, f.e) → impl_FloatParts.f 16 a = some (if f.inf || f.nan then (false, 0, 0, false) else (f.neg, f.m, f.e, true)) := by
      intro f hf
      unfold impl_FloatParts.f
      rw [show impl_formatOf.f 16 = some (10, 15, true) from rfl]
      simp only [Option.bind_some, if_true, hf]
      cases f.nan <;> cases f.inf <;> rfl
    have hi2 := hf _ hi
    generalize op16 a = f at *
    cases hc : (f.inf || f.nan) with
    | true =>
      simp only [hc, if_true] at hi2
      simp only [parts, hc, if_true] at hs
      exact ⟨_, _, _, _, fun w => ⟨hs w, impl_FloatParts.calls _ _ _ _ _ _ w hi2⟩⟩
    | false =>
      simp only [hc, Bool.false_eq_true, if_false] at hi2
      simp only [parts, hc, Bool.false_eq_true, if_false] at hs
      exact ⟨_, _, _, _, fun w => ⟨hs w, impl_FloatParts.calls _ _ _ _ _ _ w hi2⟩⟩
  · by_cases h32 : k = 32
    · subst h32
      have hi := impl_open32 a ha0 ha1
      have hs := fun w => spec32 a ha0 ha1 w
      have hf : ∀ f : FP, impl_format_open.f 23 127 a = some (f.neg, f.nan, f.inf, f.m, f.e) → impl_FloatParts.f 32 a = some (if f.inf || f.nan then (false, 0, 0, false) else (f.neg, f.m, f.e, true)) := by
        intro f hf
        unfold impl_FloatParts.f
        rw [show impl_formatOf.f 32 = some (23, 127, true) from rfl]
        simp only [Option.bind_some, if_true, hf]
        cases f.nan <;> cases f.inf <;> rfl
      have hi2 := hf _ hi
      generalize op32 a = f at *
      cases hc : (f.inf || f.nan) with
      | true =>
        simp only [hc, if_true] at hi2
        simp only [parts, hc, if_true] at hs
        exact ⟨_, _, _, _, fun w => ⟨hs w, impl_FloatParts.calls _ _ _ _ _ _ w hi2⟩⟩
      | false =>
        simp only [hc, Bool.false_eq_true, if_false] at hi2
        simp only [parts, hc, Bool.false_eq_true, if_false] at hs
        exact ⟨_, _, _, _, fun w => ⟨hs w, impl_FloatParts.calls _ _ _ _ _ _ w hi2⟩⟩
    · have hi2 : impl_FloatParts.f k a = some (false, 0, 0, false) := by
        unfold impl_FloatParts.f impl_formatOf.f
        rw [if_neg h16, if_neg h32]
        rfl
      exact ⟨_, _, _, _, fun w => ⟨spec_else k a ⟨h16, h32⟩ w, impl_FloatParts.calls _ _ _ _ _ _ w hi2⟩⟩
theorem law (k a : Int) (ha0 : 0 ≤ a) (ha1 : a < 4294967296) (w : World) : Calls Try.prog 10 #[.int .i64 k, .int .u32 a] w fun e w' => e = .returned (.bool true) ∧ Below w.heap.size w w' := by
  obtain ⟨b0, m, e, b3, hc⟩ := both k a ha0 ha1
  cases b0 <;> cases b3
  all_goals
    go_enter Try.func10, Try.ntmps10
    go_wp2_with (first | (go_at_call 34; refine (hc _).1.mono ?_; rintro e w1 ⟨rfl, hb1⟩) | (go_at_call 35; refine (hc _).2.mono ?_; rintro e w2 ⟨rfl, hb2⟩))
    go_ret
    exact ⟨by simp, below_step hb1 hb2⟩

end Go.Proofs.Ythpmpjejjbhkjaa.OwnFloatParts
