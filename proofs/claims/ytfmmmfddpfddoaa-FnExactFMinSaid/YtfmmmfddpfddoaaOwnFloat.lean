/- Floats: walks of our own of the reference's open and its kin at both kinds; no condition beside a number's range. -/
import Derived.Test.YtfmmmfddpfddoaaPlain4
import Derived.Test.YtfmmmfddpfddoaaProg
import Derived.WalkKit
namespace Go.Proofs.Ytfmmmfddpfddoaa.OwnFloat
open Go Go.RowKit Go.Proofs.YtfmmmfddpfddoaaW.PrintWords Go.Proofs.YtfmmmfddpfddoaaW.PrintLast Go.Proofs.YtfmmmfddpfddoaaW.PrintMore
set_option linter.unusedVariables false
set_option linter.unusedSimpArgs false
/-! ### The reference's floats taken apart, at each of the two kinds -/
theorem bcell {W w1 : World} (hb : Below W.heap.size W w1) : (∀ b o, b < W.heap.size → w1.cell? ⟨b, o, none⟩ = W.cell? ⟨b, o, none⟩) ∧ (∀ b o, b < W.heap.size → w1.frozen? ⟨b, o, none⟩ = W.frozen? ⟨b, o, none⟩) :=
  ⟨fun b o h => hb.cell (p := ⟨b, o, none⟩) h, fun b o h => hb.frozen (p := ⟨b, o, none⟩) h⟩
/-- A float taken apart: the sign, infinite, no number, m, e. -/
structure FP where
  neg : Bool
  inf : Bool
  nan : Bool
  m : Int
  e : Int
def FP.val (f : FP) : Value := .agg #[.bool f.neg, .bool f.inf, .bool f.nan, .int .u64 f.m, .int .i64 f.e]
theorem and_low (k : IntKind) (i : Nat) (hi : i < k.bits) (x n : Int) (hn : n = 2 ^ i - 1) : bits .and k x n = x % 2 ^ i := by subst hn; exact Pl.and_mask k i hi x
theorem or_top (i : Nat) (hi : i ≤ 31) (x n : Int) (hn : n = 2 ^ i) (h0 : 0 ≤ x) (h1 : x < 2 ^ i) : bits .or .u32 x n = x + n := by
  subst hn
  rw [Pl.or_join .u32 i (show i ≤ 32 by omega) x _ h0 h1 Int.emod_self, IntKind.wrap_u32]
  have : (2 : Int) ^ i ≤ 2147483648 := by
    rw [show (2147483648 : Int) = ((2 ^ 31 : Nat) : Int) by decide, ← Pl.pow_int]
    exact Int.ofNat_le.2 (Nat.pow_le_pow_right (by decide) hi)
  omega
/-! #### kind 16 -/
def op16 (a : Int) : FP :=
  if a / 1024 % 32 = 31 then ⟨a / 32768 % 2 == 1, a % 1024 == 0, a % 1024 != 0, 0, 0⟩ else if a / 1024 % 32 = 0 then ⟨a / 32768 % 2 == 1, false, false, a % 1024, -24⟩ else ⟨a / 32768 % 2 == 1, false, false, a % 1024 + 1024, -24 + a / 1024 % 32 - 1⟩
theorem mask16 (w : World) : Calls Try.prog 46 #[.agg #[.int .u64 5, .int .u64 10]] w fun e w' => e = .returned (.int .u32 65535) ∧ Below w.heap.size w w' := by
  go_enter Try.func46, Try.ntmps46
  go_wp2
  go_ret
  exact ⟨rfl, (Below.refl _ _).alloc (Nat.le_refl _) _⟩
theorem least16 (w : World) : Calls Try.prog 95 #[.agg #[.int .u64 5, .int .u64 10]] w fun e w' => e = .returned (.int .i64 (-24)) ∧ Below w.heap.size w w' := by
  go_enter Try.func95, Try.ntmps95
  go_wp2
  go_ret
  exact ⟨rfl, (Below.refl _ _).alloc (Nat.le_refl _) _⟩
theorem kind16 (w : World) : Calls Try.prog 43 #[.int .i64 16] w fun e w' => e = .returned (.tuple #[.agg #[.int .u64 5, .int .u64 10], .bool true]) ∧ Below w.heap.size w w' := by
  go_enter Try.func43, Try.ntmps43
  go_wp2
  refine bodyPost_ret (v := .tuple #[.agg #[.int .u64 5, .int .u64 10], .bool true]) (by simp [results, Try.results43, go_sem]) rfl ⟨rfl, ?_⟩
  repeat (first | (with_reducible exact Below.refl _ _) | (with_reducible refine below_alloc ?_ _) | (with_reducible refine below_set ?_ (by simp)))

set_option maxRecDepth 100000 in
set_option maxHeartbeats 4000000 in
theorem open16_top (a A F X : Int) (w : World) (h0 : 0 ≤ A) (h1 : A < 65536) (eA : bits .and .u32 a 65535 = A) (eF : bits .and .u32 A 1023 = F) (eX : bits .and .u32 (A / 1024) 31 = X) (f0 : 0 ≤ F) (f1 : F < 1024) (x0 : 0 ≤ X) (x1 : X < 32) (hx : X = 31) :
    Calls Try.prog 83 #[.agg #[.int .u64 5, .int .u64 10], .int .u32 a] w fun e w' => e = .returned (.agg #[.bool (A / 32768 == 1), .bool (F == 0), .bool (F != 0), .int .u64 0, .int .i64 0]) ∧ Below w.heap.size w w' := by
  subst hx
  go_enter Try.func83, Try.ntmps83
  go_wp2_with (first | (go_at_call 46; refine (mask16 _).mono ?_; rintro e w1 ⟨rfl, hb⟩; obtain ⟨hc, hf⟩ := bcell hb; have hz : w.heap.size + 1 < w1.heap.size := (by have := hb.size; simp at this; omega); have hz1 : w.heap.size < w1.heap.size := (by omega)))
  refine bodyPost_ret (v := .agg #[.bool (A / 32768 == 1), .bool (F == 0), .bool (F != 0), .int .u64 0, .int .i64 0]) (by simp [results, Try.results83, go_sem, hc, hz]) rfl ⟨rfl, ?_⟩
  have B0 : Below w.heap.size w w1 := below_step (below_alloc (below_alloc (Below.refl _ _) _) _) hb
  repeat (first | (with_reducible exact B0) | (with_reducible refine below_alloc ?_ _) | (with_reducible refine below_set ?_ (by omega)))

set_option maxRecDepth 100000 in
set_option maxHeartbeats 4000000 in
theorem open16_zero (a A F X : Int) (w : World) (h0 : 0 ≤ A) (h1 : A < 65536) (eA : bits .and .u32 a 65535 = A) (eF : bits .and .u32 A 1023 = F) (eX : bits .and .u32 (A / 1024) 31 = X) (f0 : 0 ≤ F) (f1 : F < 1024) (x0 : 0 ≤ X) (x1 : X < 32) (hx : X = 0) :
    Calls Try.prog 83 #[.agg #[.int .u64 5, .int .u64 10], .int .u32 a] w fun e w' => e = .returned (.agg #[.bool (A / 32768 == 1), .bool false, .bool false, .int .u64 F, .int .i64 (-24)]) ∧ Below w.heap.size w w' := by
  subst hx
  go_enter Try.func83, Try.ntmps83
  go_wp2_with (first | (go_at_call 46; refine (mask16 _).mono ?_; rintro e w1 ⟨rfl, hb⟩; obtain ⟨hc, hf⟩ := bcell hb; have hz : w.heap.size + 1 < w1.heap.size := (by have := hb.size; simp at this; omega); have hz1 : w.heap.size < w1.heap.size := (by omega)) | (go_at_call 95; refine (least16 _).mono ?_; rintro e w2 ⟨rfl, hb2⟩; obtain ⟨hc2, hf2⟩ := bcell hb2; have hy : w1.heap.size < w2.heap.size := (by have := hb2.size; simp at this; omega); have hy1 : w.heap.size + 1 < w2.heap.size := (by omega); have hy2 : w.heap.size < w2.heap.size := (by omega)))
  have n1 : ¬ w.heap.size + 1 = w1.heap.size := by omega
  have n2 : ¬ w1.heap.size = w.heap.size + 1 := by omega
  refine bodyPost_ret (v := .agg #[.bool (A / 32768 == 1), .bool false, .bool false, .int .u64 F, .int .i64 (-24)]) (by simp [results, Try.results83, go_sem, hc, hz, hz1, hc2, hy, hy1, hy2, n1, n2]) rfl ⟨rfl, ?_⟩
  have B0 : Below w.heap.size w w1 := below_step (below_alloc (below_alloc (Below.refl _ _) _) _) hb
  have B1 : Below w.heap.size w w2 := below_step (below_alloc B0 _) hb2
  repeat (first | (with_reducible exact B1) | (with_reducible refine below_alloc ?_ _) | (with_reducible refine below_set ?_ (by omega)))

set_option maxRecDepth 100000 in
set_option maxHeartbeats 4000000 in
theorem open16_mid (a A F X : Int) (w : World) (h0 : 0 ≤ A) (h1 : A < 65536) (eA : bits .and .u32 a 65535 = A) (eF : bits .and .u32 A 1023 = F) (eX : bits .and .u32 (A / 1024) 31 = X) (f0 : 0 ≤ F) (f1 : F < 1024) (x0 : 0 ≤ X) (x1 : X < 32) (hx : X ≠ 0 ∧ X ≠ 31) :
    Calls Try.prog 83 #[.agg #[.int .u64 5, .int .u64 10], .int .u32 a] w fun e w' => e = .returned (.agg #[.bool (A / 32768 == 1), .bool false, .bool false, .int .u64 (F + 1024), .int .i64 (-24 + X - 1)]) ∧ Below w.heap.size w w' := by
  have c1 : (X == 31) = false := beq_eq_false_iff_ne.2 (by omega)
  have c2 : (X == 0) = false := beq_eq_false_iff_ne.2 (by omega)
  have eO : bits .or .u32 F 1024 = F + 1024 := or_top 10 (by decide) F _ (by decide) f0 f1
  clear hx
  go_enter Try.func83, Try.ntmps83
  go_wp2_with (first | (go_at_call 46; refine (mask16 _).mono ?_; rintro e w1 ⟨rfl, hb⟩; obtain ⟨hc, hf⟩ := bcell hb; have hz : w.heap.size + 1 < w1.heap.size := (by have := hb.size; simp at this; omega); have hz1 : w.heap.size < w1.heap.size := (by omega)) | (go_at_call 95; refine (least16 _).mono ?_; rintro e w2 ⟨rfl, hb2⟩; obtain ⟨hc2, hf2⟩ := bcell hb2; have hy : w1.heap.size < w2.heap.size := (by have := hb2.size; simp at this; omega); have hy1 : w.heap.size + 1 < w2.heap.size := (by omega); have hy2 : w.heap.size < w2.heap.size := (by omega)))
  have n1 : ¬ w.heap.size + 1 = w1.heap.size := by omega
  have n2 : ¬ w1.heap.size = w.heap.size + 1 := by omega
  refine bodyPost_ret (v := .agg #[.bool (A / 32768 == 1), .bool false, .bool false, .int .u64 (F + 1024), .int .i64 (-24 + X - 1)]) (by simp [results, Try.results83, go_sem, hc, hz, hz1, hc2, hy, hy1, hy2, n1, n2]) rfl ⟨rfl, ?_⟩
  have B0 : Below w.heap.size w w1 := below_step (below_alloc (below_alloc (Below.refl _ _) _) _) hb
  have B1 : Below w.heap.size w w2 := below_step (below_alloc B0 _) hb2
  repeat (first | (with_reducible exact B1) | (with_reducible refine below_alloc ?_ _) | (with_reducible refine below_set ?_ (by omega)))

theorem open16 (a : Int) (ha0 : 0 ≤ a) (ha1 : a < 4294967296) (w : World) : Calls Try.prog 83 #[.agg #[.int .u64 5, .int .u64 10], .int .u32 a] w fun e w' => e = .returned (op16 a).val ∧ Below w.heap.size w w' := by
  have eA : bits .and .u32 a 65535 = a % 65536 := and_low .u32 16 (by decide) a _ (by decide)
  have eF : bits .and .u32 (a % 65536) 1023 = a % 1024 := by rw [and_low .u32 10 (by decide) _ _ (by decide)]; omega
  have eX : bits .and .u32 (a % 65536 / 1024) 31 = a / 1024 % 32 := by rw [and_low .u32 5 (by decide) _ _ (by decide)]; omega
  have eN : a % 65536 / 32768 = a / 32768 % 2 := by omega
  unfold op16
  by_cases hx : a / 1024 % 32 = 31
  · have := open16_top a _ _ _ w (by omega) (by omega) eA eF eX (by omega) (by omega) (by omega) (by omega) hx
    rw [if_pos hx]; rw [eN] at this; exact this
  · by_cases hz : a / 1024 % 32 = 0
    · have := open16_zero a _ _ _ w (by omega) (by omega) eA eF eX (by omega) (by omega) (by omega) (by omega) hz
      rw [if_neg hx, if_pos hz]; rw [eN] at this; exact this
    · have := open16_mid a _ _ _ w (by omega) (by omega) eA eF eX (by omega) (by omega) (by omega) (by omega) ⟨hz, hx⟩
      rw [if_neg hx, if_neg hz]; rw [eN] at this; exact this

/-! #### kind 32 -/
def op32 (a : Int) : FP :=
  if a / 8388608 % 256 = 255 then ⟨a / 2147483648 % 2 == 1, a % 8388608 == 0, a % 8388608 != 0, 0, 0⟩ else if a / 8388608 % 256 = 0 then ⟨a / 2147483648 % 2 == 1, false, false, a % 8388608, -149⟩ else ⟨a / 2147483648 % 2 == 1, false, false, a % 8388608 + 8388608, -149 + a / 8388608 % 256 - 1⟩
theorem mask32 (w : World) : Calls Try.prog 46 #[.agg #[.int .u64 8, .int .u64 23]] w fun e w' => e = .returned (.int .u32 4294967295) ∧ Below w.heap.size w w' := by
  go_enter Try.func46, Try.ntmps46
  go_wp2
  go_ret
  exact ⟨rfl, (Below.refl _ _).alloc (Nat.le_refl _) _⟩
theorem least32 (w : World) : Calls Try.prog 95 #[.agg #[.int .u64 8, .int .u64 23]] w fun e w' => e = .returned (.int .i64 (-149)) ∧ Below w.heap.size w w' := by
  go_enter Try.func95, Try.ntmps95
  go_wp2
  go_ret
  exact ⟨rfl, (Below.refl _ _).alloc (Nat.le_refl _) _⟩
theorem kind32 (w : World) : Calls Try.prog 43 #[.int .i64 32] w fun e w' => e = .returned (.tuple #[.agg #[.int .u64 8, .int .u64 23], .bool true]) ∧ Below w.heap.size w w' := by
  go_enter Try.func43, Try.ntmps43
  go_wp2
  refine bodyPost_ret (v := .tuple #[.agg #[.int .u64 8, .int .u64 23], .bool true]) (by simp [results, Try.results43, go_sem]) rfl ⟨rfl, ?_⟩
  repeat (first | (with_reducible exact Below.refl _ _) | (with_reducible refine below_alloc ?_ _) | (with_reducible refine below_set ?_ (by simp)))

set_option maxRecDepth 100000 in
set_option maxHeartbeats 4000000 in
theorem open32_top (a A F X : Int) (w : World) (h0 : 0 ≤ A) (h1 : A < 4294967296) (eA : bits .and .u32 a 4294967295 = A) (eF : bits .and .u32 A 8388607 = F) (eX : bits .and .u32 (A / 8388608) 255 = X) (f0 : 0 ≤ F) (f1 : F < 8388608) (x0 : 0 ≤ X) (x1 : X < 256) (hx : X = 255) :
    Calls Try.prog 83 #[.agg #[.int .u64 8, .int .u64 23], .int .u32 a] w fun e w' => e = .returned (.agg #[.bool (A / 2147483648 == 1), .bool (F == 0), .bool (F != 0), .int .u64 0, .int .i64 0]) ∧ Below w.heap.size w w' := by
  subst hx
  go_enter Try.func83, Try.ntmps83
  go_wp2_with (first | (go_at_call 46; refine (mask32 _).mono ?_; rintro e w1 ⟨rfl, hb⟩; obtain ⟨hc, hf⟩ := bcell hb; have hz : w.heap.size + 1 < w1.heap.size := (by have := hb.size; simp at this; omega); have hz1 : w.heap.size < w1.heap.size := (by omega)))
  refine bodyPost_ret (v := .agg #[.bool (A / 2147483648 == 1), .bool (F == 0), .bool (F != 0), .int .u64 0, .int .i64 0]) (by simp [results, Try.results83, go_sem, hc, hz]) rfl ⟨rfl, ?_⟩
  have B0 : Below w.heap.size w w1 := below_step (below_alloc (below_alloc (Below.refl _ _) _) _) hb
  repeat (first | (with_reducible exact B0) | (with_reducible refine below_alloc ?_ _) | (with_reducible refine below_set ?_ (by omega)))

set_option maxRecDepth 100000 in
set_option maxHeartbeats 4000000 in
theorem open32_zero (a A F X : Int) (w : World) (h0 : 0 ≤ A) (h1 : A < 4294967296) (eA : bits .and .u32 a 4294967295 = A) (eF : bits .and .u32 A 8388607 = F) (eX : bits .and .u32 (A / 8388608) 255 = X) (f0 : 0 ≤ F) (f1 : F < 8388608) (x0 : 0 ≤ X) (x1 : X < 256) (hx : X = 0) :
    Calls Try.prog 83 #[.agg #[.int .u64 8, .int .u64 23], .int .u32 a] w fun e w' => e = .returned (.agg #[.bool (A / 2147483648 == 1), .bool false, .bool false, .int .u64 F, .int .i64 (-149)]) ∧ Below w.heap.size w w' := by
  subst hx
  go_enter Try.func83, Try.ntmps83
  go_wp2_with (first | (go_at_call 46; refine (mask32 _).mono ?_; rintro e w1 ⟨rfl, hb⟩; obtain ⟨hc, hf⟩ := bcell hb; have hz : w.heap.size + 1 < w1.heap.size := (by have := hb.size; simp at this; omega); have hz1 : w.heap.size < w1.heap.size := (by omega)) | (go_at_call 95; refine (least32 _).mono ?_; rintro e w2 ⟨rfl, hb2⟩; obtain ⟨hc2, hf2⟩ := bcell hb2; have hy : w1.heap.size < w2.heap.size := (by have := hb2.size; simp at this; omega); have hy1 : w.heap.size + 1 < w2.heap.size := (by omega); have hy2 : w.heap.size < w2.heap.size := (by omega)))
  have n1 : ¬ w.heap.size + 1 = w1.heap.size := by omega
  have n2 : ¬ w1.heap.size = w.heap.size + 1 := by omega
  refine bodyPost_ret (v := .agg #[.bool (A / 2147483648 == 1), .bool false, .bool false, .int .u64 F, .int .i64 (-149)]) (by simp [results, Try.results83, go_sem, hc, hz, hz1, hc2, hy, hy1, hy2, n1, n2]) rfl ⟨rfl, ?_⟩
  have B0 : Below w.heap.size w w1 := below_step (below_alloc (below_alloc (Below.refl _ _) _) _) hb
  have B1 : Below w.heap.size w w2 := below_step (below_alloc B0 _) hb2
  repeat (first | (with_reducible exact B1) | (with_reducible refine below_alloc ?_ _) | (with_reducible refine below_set ?_ (by omega)))

set_option maxRecDepth 100000 in
set_option maxHeartbeats 4000000 in
theorem open32_mid (a A F X : Int) (w : World) (h0 : 0 ≤ A) (h1 : A < 4294967296) (eA : bits .and .u32 a 4294967295 = A) (eF : bits .and .u32 A 8388607 = F) (eX : bits .and .u32 (A / 8388608) 255 = X) (f0 : 0 ≤ F) (f1 : F < 8388608) (x0 : 0 ≤ X) (x1 : X < 256) (hx : X ≠ 0 ∧ X ≠ 255) :
    Calls Try.prog 83 #[.agg #[.int .u64 8, .int .u64 23], .int .u32 a] w fun e w' => e = .returned (.agg #[.bool (A / 2147483648 == 1), .bool false, .bool false, .int .u64 (F + 8388608), .int .i64 (-149 + X - 1)]) ∧ Below w.heap.size w w' := by
  have c1 : (X == 255) = false := beq_eq_false_iff_ne.2 (by omega)
  have c2 : (X == 0) = false := beq_eq_false_iff_ne.2 (by omega)
  have eO : bits .or .u32 F 8388608 = F + 8388608 := or_top 23 (by decide) F _ (by decide) f0 f1
  clear hx
  go_enter Try.func83, Try.ntmps83
  go_wp2_with (first | (go_at_call 46; refine (mask32 _).mono ?_; rintro e w1 ⟨rfl, hb⟩; obtain ⟨hc, hf⟩ := bcell hb; have hz : w.heap.size + 1 < w1.heap.size := (by have := hb.size; simp at this; omega); have hz1 : w.heap.size < w1.heap.size := (by omega)) | (go_at_call 95; refine (least32 _).mono ?_; rintro e w2 ⟨rfl, hb2⟩; obtain ⟨hc2, hf2⟩ := bcell hb2; have hy : w1.heap.size < w2.heap.size := (by have := hb2.size; simp at this; omega); have hy1 : w.heap.size + 1 < w2.heap.size := (by omega); have hy2 : w.heap.size < w2.heap.size := (by omega)))
  have n1 : ¬ w.heap.size + 1 = w1.heap.size := by omega
  have n2 : ¬ w1.heap.size = w.heap.size + 1 := by omega
  refine bodyPost_ret (v := .agg #[.bool (A / 2147483648 == 1), .bool false, .bool false, .int .u64 (F + 8388608), .int .i64 (-149 + X - 1)]) (by simp [results, Try.results83, go_sem, hc, hz, hz1, hc2, hy, hy1, hy2, n1, n2]) rfl ⟨rfl, ?_⟩
  have B0 : Below w.heap.size w w1 := below_step (below_alloc (below_alloc (Below.refl _ _) _) _) hb
  have B1 : Below w.heap.size w w2 := below_step (below_alloc B0 _) hb2
  repeat (first | (with_reducible exact B1) | (with_reducible refine below_alloc ?_ _) | (with_reducible refine below_set ?_ (by omega)))

theorem open32 (a : Int) (ha0 : 0 ≤ a) (ha1 : a < 4294967296) (w : World) : Calls Try.prog 83 #[.agg #[.int .u64 8, .int .u64 23], .int .u32 a] w fun e w' => e = .returned (op32 a).val ∧ Below w.heap.size w w' := by
  have eA : bits .and .u32 a 4294967295 = a % 4294967296 := by rw [Pl.bits_and_nat, Int.emod_eq_of_lt ha0 (by simpa [IntKind.bits] using ha1), show (((4294967295 : Int) % 2 ^ IntKind.u32.bits).toNat) = 2 ^ 32 - 1 by decide, Nat.and_two_pow_sub_one_eq_mod, IntKind.wrap_u32]; omega
  have eF : bits .and .u32 (a % 4294967296) 8388607 = a % 8388608 := by rw [and_low .u32 23 (by decide) _ _ (by decide)]; omega
  have eX : bits .and .u32 (a % 4294967296 / 8388608) 255 = a / 8388608 % 256 := by rw [and_low .u32 8 (by decide) _ _ (by decide)]; omega
  have eN : a % 4294967296 / 2147483648 = a / 2147483648 % 2 := by omega
  unfold op32
  by_cases hx : a / 8388608 % 256 = 255
  · have := open32_top a _ _ _ w (by omega) (by omega) eA eF eX (by omega) (by omega) (by omega) (by omega) hx
    rw [if_pos hx]; rw [eN] at this; exact this
  · by_cases hz : a / 8388608 % 256 = 0
    · have := open32_zero a _ _ _ w (by omega) (by omega) eA eF eX (by omega) (by omega) (by omega) (by omega) hz
      rw [if_neg hx, if_pos hz]; rw [eN] at this; exact this
    · have := open32_mid a _ _ _ w (by omega) (by omega) eA eF eX (by omega) (by omega) (by omega) (by omega) ⟨hz, hx⟩
      rw [if_neg hx, if_neg hz]; rw [eN] at this; exact this

theorem kind_else (k : Int) (h : k ≠ 16 ∧ k ≠ 32) (w : World) : Calls Try.prog 43 #[.int .i64 k] w fun e w' => e = .returned (.tuple #[.agg #[.int .u64 0, .int .u64 0], .bool false]) ∧ Below w.heap.size w w' := by
  have h1 : (k == 16) = false := beq_eq_false_iff_ne.2 h.1
  have h2 : (k == 32) = false := beq_eq_false_iff_ne.2 h.2
  clear h
  go_enter Try.func43, Try.ntmps43
  go_wp2
  refine bodyPost_ret (v := .tuple #[.agg #[.int .u64 0, .int .u64 0], .bool false]) (by simp [results, Try.results43, go_sem]) rfl ⟨rfl, ?_⟩
  repeat (first | (with_reducible exact Below.refl _ _) | (with_reducible refine below_alloc ?_ _) | (with_reducible refine below_set ?_ (by simp)))

end Go.Proofs.Ytfmmmfddpfddoaa.OwnFloat
