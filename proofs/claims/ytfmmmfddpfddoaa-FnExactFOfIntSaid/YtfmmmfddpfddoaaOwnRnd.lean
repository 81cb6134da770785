/- Rounding, the reference: walks of our own. -/
import Derived.Test.YtfmmmfddpfddoaaPlainA
import Derived.Test.YtfmmmfddpfddoaaProg
import Derived.Test.YtfmmmfddpfddoaaPl4Lenx1
import Derived.Test.YtfmmmfddpfddoaaPleastx1
import Derived.Test.YtfmmmfddpfddoaaPinfx1
import Derived.Lib.ItoaNum
import Derived.Outline
import Derived.WalkKit
import Derived.Deep.DeepCutAuto
import Derived.RegionTactic
import Derived.ChangeAlike
import Derived.Deep.QuietTactic
import Derived.Deep.RegionHeldLaw
import Derived.BigQuiet
import Derived.BigRegion
namespace Go.Proofs.Ytfmmmfddpfddoaa.OwnRnd
open Go Go.RowKit Go.Proofs.YtfmmmfddpfddoaaW.PrintWords Go.Proofs.YtfmmmfddpfddoaaW.PrintLast Go.Proofs.YtfmmmfddpfddoaaW.PrintMore
set_option linter.unusedVariables false
set_option linter.unusedSimpArgs false
theorem bcell {W w1 : World} (hb : Below W.heap.size W w1) : (∀ b o, b < W.heap.size → w1.cell? ⟨b, o, none⟩ = W.cell? ⟨b, o, none⟩) ∧ (∀ b o, b < W.heap.size → w1.frozen? ⟨b, o, none⟩ = W.frozen? ⟨b, o, none⟩) :=
  ⟨fun b o h => hb.cell (p := ⟨b, o, none⟩) h, fun b o h => hb.frozen (p := ⟨b, o, none⟩) h⟩
theorem l4Len_told : ∀ (k x : Nat) (c : Int), x < 2 ^ k → k ≤ 64 → 0 ≤ c → c + k ≤ 1000 → Pl4Len.spec_l4Len.l0 (k + 1) x c = some (c + Lib.bitLen x)
  | 0, x, c, hx, _, _, _ => by
    obtain rfl : x = 0 := by omega
    simp [Pl4Len.spec_l4Len.l0, show Lib.bitLen 0 = 0 from rfl]
  | k + 1, x, c, hx, hk, h0, h1 => by
    by_cases z : x = 0
    · subst z; simp [Pl4Len.spec_l4Len.l0, show Lib.bitLen 0 = 0 from rfl]
    · have hx64 : x < 2 ^ 64 := Nat.lt_of_lt_of_le hx (Nat.pow_le_pow_right (by decide) hk)
      rw [Pl4Len.spec_l4Len.l0, if_pos (by omega), Pl.w64 (by omega) (by omega), show ((x : Int) / 2) = ((x / 2 : Nat) : Int) by omega, l4Len_told k (x / 2) (c + 1) (by omega) (by omega) (by omega) (by omega), Lib.bitLen_half x z hx64]
      congr 1; omega
theorem len_s (m : Nat) (h : m < 2 ^ 64) (w : World) : Calls Try.prog 74 #[.int .u64 m] w fun e w' => e = .returned (.int .i64 (Lib.bitLen m)) ∧ Below w.heap.size w w' :=
  (Pl4Len.spec_l4Len.calls 65 m (0 + Lib.bitLen m) w (by rw [Pl4Len.spec_l4Len.f, l4Len_told 64 m 0 h (by omega) (by omega) (by omega)])).mono fun e w' ⟨h1, h2⟩ => ⟨by rw [h1, Int.zero_add], h2.below⟩
theorem len_bounds (m : Nat) (h0 : m ≠ 0) (h : m < 2 ^ 64) : 1 ≤ Lib.bitLen m ∧ 2 ^ (Lib.bitLen m - 1) ≤ m ∧ m < 2 ^ Lib.bitLen m := Lib.bitLenAux_bounds 64 m h h0
def rLow (p least : Int) (L : Nat) (e : Int) : Int := if e + L - p - 1 < least then least else e + L - p - 1
def rUp (m : Int) (s : Nat) (more : Bool) : Bool := decide (2 ^ (s - 1) < m % 2 ^ s) || (decide (m % 2 ^ s = 2 ^ (s - 1)) && (more || decide (m / 2 ^ s % 2 = 1)))
def rK (m : Int) (sh : Int) (more : Bool) : Int := if sh ≤ 0 then m * 2 ^ (-sh).toNat else if sh < 64 then m / 2 ^ sh.toNat + (if rUp m sh.toNat more then 1 else 0) else 0
theorem pow_nat (t : Nat) : ((2 ^ t : Nat) : Int) = (2 : Int) ^ t := Int.natCast_pow 2 t
theorem wrap_pow (t : Nat) (h : t ≤ 63) : IntKind.u64.wrap ((2 : Int) ^ t) = (2 : Int) ^ t := by
  have : 2 ^ t ≤ 2 ^ 63 := Nat.pow_le_pow_right (by decide) h
  rw [IntKind.wrap_u64, ← pow_nat]; generalize 2 ^ t = n at *; omega
theorem wrap_mask (t : Nat) (h : t ≤ 63) : IntKind.u64.wrap ((2 : Int) ^ t - 1) = (2 : Int) ^ t - 1 := by
  have : 2 ^ t ≤ 2 ^ 63 := Nat.pow_le_pow_right (by decide) h
  have h1 : 1 ≤ 2 ^ t := Nat.one_le_two_pow
  rw [IntKind.wrap_u64, ← pow_nat]; generalize 2 ^ t = n at *; omega
theorem and_one (k : IntKind) (h : 1 < k.bits) (x : Int) : bits .and k x 1 = x % 2 := Pl.and_mask k 1 h x
theorem rK_le (q : Nat) (hq : q ≤ 62) (m L : Nat) (l2 : m < 2 ^ L) (sh : Int) (h : (L : Int) ≤ q + sh) (more : Bool) : 0 ≤ rK m sh more ∧ rK m sh more ≤ 2 ^ q := by
  unfold rK
  by_cases c1 : sh ≤ 0
  · rw [if_pos c1]
    obtain ⟨t, ht⟩ : ∃ t : Nat, -sh = t := ⟨(-sh).toNat, by omega⟩
    rw [ht, Int.toNat_natCast]
    have h1 : m * 2 ^ t < 2 ^ L * 2 ^ t := Nat.mul_lt_mul_of_pos_right l2 (Nat.two_pow_pos _)
    rw [← Nat.pow_add] at h1
    have h2 : 2 ^ (L + t) ≤ 2 ^ q := Nat.pow_le_pow_right (by decide) (by omega)
    rw [← pow_nat, ← pow_nat, ← Int.natCast_mul]
    omega
  · rw [if_neg c1]
    by_cases c2 : sh < 64
    · rw [if_pos c2]
      obtain ⟨t, ht⟩ : ∃ t : Nat, sh = t := ⟨sh.toNat, by omega⟩
      subst ht
      rw [Int.toNat_natCast]
      have h1 : m / 2 ^ t < 2 ^ q := by
        rw [Nat.div_lt_iff_lt_mul (Nat.two_pow_pos _), ← Nat.pow_add]
        exact Nat.lt_of_lt_of_le l2 (Nat.pow_le_pow_right (by decide) (by omega))
      rw [← pow_nat, ← pow_nat, ← Int.natCast_ediv]
      generalize m / 2 ^ t = a at *
      generalize 2 ^ q = b at *
      split <;> omega
    · rw [if_neg c2]
      have : (0 : Int) < 2 ^ q := Int.pow_pos (by decide)
      omega
theorem or_add (i : Nat) (hi : i ≤ 32) (a b : Int) (ha : a % 2 ^ i = 0) (a0 : 0 ≤ a) (b0 : 0 ≤ b) (b1 : b < 2 ^ i) (h : a + b < 4294967296) : bits .or .u32 a b = a + b := by
  rw [Pl.or_comm, Pl.or_join .u32 i hi b a b0 b1 ha, IntKind.wrap_u32]; omega
def rOut (sg p2 least top K low : Int) : Int := if K < p2 then sg + K else if top ≤ low - least + 1 then sg + top * p2 else sg + (low - least + 1) * p2 + K % p2
def rTail (sg p2 least top K low : Int) : Int := if K = 2 * p2 then rOut sg p2 least top p2 (low + 1) else rOut sg p2 least top K low
theorem least_s16 (w : World) : Calls Try.prog 95 #[.agg #[.int .u64 5, .int .u64 10]] w fun e w' => e = .returned (.int .i64 (-24)) ∧ Below w.heap.size w w' := Pleast.spec_l4K_least.calls 5 10 (-24) w (by decide +kernel)
def sg16 (neg : Bool) : Int := if neg then 32768 else 0
theorem sign_s16 (neg : Bool) (w : World) : Calls Try.prog 94 #[.agg #[.int .u64 5, .int .u64 10], .bool neg] w fun e w' => e = .returned (.int .u32 (sg16 neg)) ∧ Below w.heap.size w w' := Pinf.spec_l4K_sign.calls 5 10 neg _ w (by cases neg <;> decide +kernel)
theorem inf_s16 (neg : Bool) (w : World) : Calls Try.prog 96 #[.agg #[.int .u64 5, .int .u64 10], .bool neg] w fun e w' => e = .returned (.int .u32 (sg16 neg + 31744)) ∧ Below w.heap.size w w' := Pinf.spec_l4K_inf.calls 5 10 neg _ w (by cases neg <;> decide +kernel)
def Cells16 (w wx : World) : Prop := wx.cell? ⟨w.heap.size, 0, none⟩ = some (.int .u64 5) ∧ wx.cell? ⟨w.heap.size, 1, none⟩ = some (.int .u64 10) ∧ wx.frozen? ⟨w.heap.size, 0, none⟩ = false ∧ wx.frozen? ⟨w.heap.size, 1, none⟩ = false ∧ w.heap.size < wx.heap.size ∧ Below w.heap.size w wx
set_option maxRecDepth 100000 in
set_option maxHeartbeats 4000000 in
theorem round_s16 (neg more : Bool) (m : Nat) (e V : Int) (h0 : m ≠ 0) (h : m < 2 ^ 63 + 1) (he : -1000 ≤ e) (he1 : e ≤ 1000) (hV : rTail (sg16 neg) 1024 (-24) 31 (rK m (rLow 10 (-24) (Lib.bitLen m) e - e) more) (rLow 10 (-24) (Lib.bitLen m) e) = V) (w : World) : Calls Try.prog 75 #[.agg #[.int .u64 5, .int .u64 10], .bool neg, .int .u64 m, .int .i64 e, .bool more] w fun en w' => en = .returned (.int .u32 V) ∧ Below w.heap.size w w' := by
  obtain ⟨l0, l1, l2⟩ := len_bounds m h0 (by omega)
  have l3 : Lib.bitLen m ≤ 64 := Lib.bitLen_le m 64 (by omega) (by omega)
  have cl := fun w => len_s m (by omega) w
  have cm := fun w => least_s16 w
  have z : ((m : Int) == 0) = false := beq_eq_false_iff_ne.2 (by omega)
  generalize Lib.bitLen m = L at *
  go_enter Try.func75, Try.ntmps75
  go_upto_region 3 with fail
  go_cut [11] (fun s11 wx => s11 = .int .i64 (e + L - 11) ∧ Cells16 w wx)
  case first =>
    have kw : IntKind.i64.wrap 10 = 10 := by decide
    go_region_held_law (fun w' => w'.cell? ⟨w.heap.size, 0, none⟩ = some (.int .u64 5) ∧ w'.cell? ⟨w.heap.size, 1, none⟩ = some (.int .u64 10)) (refine ⟨?_, ?_⟩ <;> go_simp) (first | (go_at_call 74; (with_reducible refine (cl _).mono ?_); rintro e w9 ⟨rfl, hb9⟩; obtain ⟨hc9, hf9⟩ := bcell hb9; have j0 : w9.cell? ⟨w.heap.size, 0, none⟩ = some (.int .u64 5) := (by rw [hc9 _ _ (by first | (simp; done) | (simp; omega) | omega)]; go_simp); have j1 : w9.cell? ⟨w.heap.size, 1, none⟩ = some (.int .u64 10) := (by rw [hc9 _ _ (by first | (simp; done) | (simp; omega) | omega)]; go_simp)))
    go_wp2_with fail
    go_meet
    case rel => exact ⟨congrArg (Value.int .i64) (by simp only [IntKind.wrap_i64]; omega), j0, j1, by rw [hf9 _ _ (by simp)]; go_simp, by rw [hf9 _ _ (by simp)]; go_simp, by have := hb9.size; simp at this; omega, by repeat (first | (with_reducible exact Below.refl _ _) | (with_reducible refine below_alloc ?_ _) | (with_reducible refine below_drew1 ?_) | (with_reducible refine below_step ?_ hb9))⟩
  case rest =>
    obtain ⟨rfl, x0, x1, y0, y1, xs, hb⟩ := hcut
    clear cl
    go_upto_if 33 with (first | (go_at_call 95; (with_reducible refine (cm _).mono ?_); rintro e w2 ⟨rfl, hb2⟩; obtain ⟨hc2, hf2⟩ := bcell hb2; have k0 : w2.cell? ⟨w.heap.size, 0, none⟩ = some (.int .u64 5) := (by rw [hc2 _ _ xs]; exact x0); have k1 : w2.cell? ⟨w.heap.size, 1, none⟩ = some (.int .u64 10) := (by rw [hc2 _ _ xs]; exact x1)))
    have v0 : w2.frozen? ⟨w.heap.size, 0, none⟩ = false := by rw [hf2 _ _ xs]; exact y0
    have v1 : w2.frozen? ⟨w.heap.size, 1, none⟩ = false := by rw [hf2 _ _ xs]; exact y1
    have xs2 : w.heap.size < w2.heap.size := by have := hb2.size; omega
    have hB2 : Below w.heap.size w w2 := below_step hb hb2
    clear hb2 hc2 hf2 hb x0 x1 y0 y1 xs
    go_cut [11] (fun s11 wx => s11 = .int .i64 (rLow 10 (-24) L e) ∧ Cells16 w wx)
    case first =>
      by_cases c : e + (L : Int) - 11 < -24
      · have cb : decide (e + (L : Int) - 11 < -24) = true := decide_eq_true c
        go_wp2_with (first | (go_at_call 95; (with_reducible refine (cm _).mono ?_); rintro e w3 ⟨rfl, hb3⟩; obtain ⟨hc3, hf3⟩ := bcell hb3))
        go_meet
        case rel => exact ⟨by unfold rLow; rw [if_pos (by omega)], by rw [hc3 _ _ xs2]; exact k0, by rw [hc3 _ _ xs2]; exact k1, by rw [hf3 _ _ xs2]; exact v0, by rw [hf3 _ _ xs2]; exact v1, by have := hb3.size; omega, below_step hB2 hb3⟩
      · have cb : decide (e + (L : Int) - 11 < -24) = false := decide_eq_false c
        go_wp2_with fail
        go_meet
        case rel => exact ⟨by unfold rLow; rw [if_neg (by omega)]; congr 1; omega, k0, k1, v0, v1, xs2, hB2⟩
    case rest =>
      clear k0 k1 v0 v1 xs2 hB2
      obtain ⟨rfl, x0, x1, y0, y1, xs, hb⟩ := hcut
      have hl : -24 ≤ rLow 10 (-24) L e ∧ e + L - 11 ≤ rLow 10 (-24) L e ∧ (rLow 10 (-24) L e = -24 ∨ rLow 10 (-24) L e = e + L - 11) := by unfold rLow; split <;> omega
      generalize rLow 10 (-24) L e = low at *
      obtain ⟨hl1, hl2, hl3⟩ := hl
      have hsh : IntKind.i64.wrap (low - e) = low - e := by rw [IntKind.wrap_i64]; omega
      go_upto_if 40 with fail
      go_cut [2, 4, 12, 13, 14] (fun s2 s4 s12 s13 s14 wx => s2 = .int .u64 (rK m (low - e) more) ∧ Cells16 w wx)
      case first =>
        by_cases c1 : low - e ≤ 0
        · obtain ⟨t, ht⟩ : ∃ t : Nat, e - low = t := ⟨(e - low).toNat, by omega⟩
          have d1 : decide (low - e ≤ 0) = true := decide_eq_true c1
          have d2 : (-(low - e)).toNat = t := by omega
          have d3 : m * 2 ^ t < 2 ^ 64 := by
            have h1 : m * 2 ^ t < 2 ^ L * 2 ^ t := Nat.mul_lt_mul_of_pos_right l2 (Nat.two_pow_pos _)
            rw [← Nat.pow_add] at h1
            exact Nat.lt_of_lt_of_le h1 (Nat.pow_le_pow_right (by decide) (by omega))
          have d4 : rK m (low - e) more = (m : Int) * 2 ^ t := by unfold rK; rw [if_pos c1, d2]
          have d5 : IntKind.u64.wrap ((m : Int) * 2 ^ t) = (m : Int) * 2 ^ t := by
            rw [IntKind.wrap_u64, ← pow_nat, ← Int.natCast_mul]; omega
          clear d3
          go_wp2_with fail
          go_meet
          case rel => exact ⟨by rw [d4], x0, x1, y0, y1, xs, hb⟩
        · by_cases c2 : low - e < 64
          · obtain ⟨t, ht⟩ : ∃ t : Nat, low - e = t := ⟨(low - e).toNat, by omega⟩
            have d1 : decide (low - e ≤ 0) = false := decide_eq_false c1
            have d2 : decide (low - e < 64) = true := decide_eq_true c2
            have d3 : (low - e).toNat = t := by omega
            have t1 : 1 ≤ t := by omega
            have t2 : t ≤ 63 := by omega
            have e1 := wrap_pow t t2
            have e1' := wrap_mask t t2
            have e2 := wrap_pow (t - 1) (by omega)
            have e3 : bits .and .u64 (m : Int) ((2 : Int) ^ t - 1) = (m : Int) % 2 ^ t := Pl.and_mask .u64 t (show t < 64 by omega) m
            have d4 : rK m (low - e) more = (m : Int) / 2 ^ t + (if rUp m t more then 1 else 0) := by unfold rK; rw [if_neg c1, if_pos c2, d3]
            have q1 : (m : Int) / 2 ^ t < 2 ^ 63 := by
              have : m / 2 ^ t < 2 ^ 63 := by
                have h1 : m / 2 ^ t ≤ m / 2 ^ 1 := Nat.div_le_div_left (Nat.pow_le_pow_right (by decide) t1) (by decide)
                omega
              rw [← pow_nat, ← Int.natCast_ediv]; omega
            have q0 : 0 ≤ (m : Int) / 2 ^ t := Int.ediv_nonneg (by omega) (Int.pow_nonneg (by decide))
            unfold rUp at d4
            generalize hH : (2 : Int) ^ (t - 1) = H at *
            generalize hR : (m : Int) % 2 ^ t = R at *
            generalize hQ : (m : Int) / 2 ^ t = Q at *
            have e4 : bits .and .u64 Q 1 = Q % 2 := and_one .u64 (by decide) Q
            have e5 : IntKind.u64.wrap (Q + 1) = Q + 1 := by rw [IntKind.wrap_u64]; omega
            by_cases u1 : H < R
            · have b1 : decide (H < R) = true := decide_eq_true u1
              go_wp2_with fail
              go_meet
              case rel => exact ⟨by rw [d4, b1]; rfl, x0, x1, y0, y1, xs, hb⟩
            · have b1 : decide (H < R) = false := decide_eq_false u1
              by_cases u2 : R = H
              · have b2 : (R == H) = true := beq_iff_eq.2 u2
                have b3 : decide (R = H) = true := decide_eq_true u2
                cases more with
                | true =>
                  go_wp2_with fail
                  go_meet
                  case rel => exact ⟨by rw [d4, b1, b3]; rfl, x0, x1, y0, y1, xs, hb⟩
                | false =>
                  by_cases u3 : Q % 2 = 1
                  · have b4 : (Q % 2 == 1) = true := beq_iff_eq.2 u3
                    have b5 : decide (Q % 2 = 1) = true := decide_eq_true u3
                    go_wp2_with fail
                    go_meet
                    case rel => exact ⟨by rw [d4, b1, b3, b5]; rfl, x0, x1, y0, y1, xs, hb⟩
                  · have b4 : (Q % 2 == 1) = false := beq_eq_false_iff_ne.2 u3
                    have b5 : decide (Q % 2 = 1) = false := decide_eq_false u3
                    go_wp2_with fail
                    go_meet
                    case rel => exact ⟨by rw [d4, b1, b3, b5]; simp, x0, x1, y0, y1, xs, hb⟩
              · have b2 : (R == H) = false := beq_eq_false_iff_ne.2 u2
                have b3 : decide (R = H) = false := decide_eq_false u2
                go_wp2_with fail
                go_meet
                case rel => exact ⟨by rw [d4, b1, b3]; simp, x0, x1, y0, y1, xs, hb⟩
          · have d1 : decide (low - e ≤ 0) = false := decide_eq_false c1
            have d2 : decide (low - e < 64) = false := decide_eq_false c2
            have d4 : rK m (low - e) more = 0 := by unfold rK; rw [if_neg c1, if_neg c2]
            go_wp2_with fail
            go_meet
            case rel => exact ⟨by rw [d4], x0, x1, y0, y1, xs, hb⟩
      case rest =>
        have hK := rK_le 11 (by decide) m L l2 (low - e) (by omega) more
        generalize rK m (low - e) more = K at *
        clear x0 x1 y0 y1 xs hb
        obtain ⟨rfl, x0, x1, y0, y1, xs, hb⟩ := hcut
        go_upto_if 86 with fail
        go_cut [2, 11] (fun s2 s11 wx => ∃ K' low' : Int, s2 = .int .u64 K' ∧ s11 = .int .i64 low' ∧ rTail (sg16 neg) 1024 (-24) 31 K low = rOut (sg16 neg) 1024 (-24) 31 K' low' ∧ 0 ≤ K' ∧ K' < 2048 ∧ -24 ≤ low' ∧ low' ≤ 2000 ∧ Cells16 w wx)
        case first =>
          by_cases c : K = 2048
          · subst c
            have b1 : IntKind.i64.wrap (low + 1) = low + 1 := by rw [IntKind.wrap_i64]; omega
            go_wp2_with fail
            go_meet
            case rel => exact ⟨1024, low + 1, rfl, rfl, rfl, by omega, by omega, by omega, by omega, x0, x1, y0, y1, xs, hb⟩
          · have b1 : (K == 2048) = false := beq_eq_false_iff_ne.2 c
            go_wp2_with fail
            go_meet
            case rel => exact ⟨K, low, rfl, rfl, by unfold rTail; rw [if_neg (by omega)], by omega, by omega, by omega, by omega, x0, x1, y0, y1, xs, hb⟩
        case rest =>
          clear hK hl1 hl2 hl3 hsh x0 x1 y0 y1 xs hb
          obtain ⟨K', low', rfl, rfl, hW, hK0, hK1, hl0, hl1, x0, x1, y0, y1, xs, hb⟩ := hcut
          rw [hW] at hV
          clear hW
          unfold rOut at hV
          have cS := fun w => sign_s16 neg w
          have cI := fun w => inf_s16 neg w
          have hsg : sg16 neg = 0 ∨ sg16 neg = 32768 := by cases neg <;> decide
          generalize sg16 neg = sg at *
          have q0 : IntKind.u32.wrap K' = K' := by rw [IntKind.wrap_u32]; omega
          by_cases t1 : K' < 1024
          · have b1 : decide (K' < 1024) = true := decide_eq_true t1
            rw [if_pos t1] at hV
            have q1 : bits .or .u32 sg K' = V := by rw [or_add 10 (by decide) sg K' (by omega) (by omega) hK0 (by omega) (by omega)]; exact hV
            go_wp2_with (first | (go_at_call 94; (with_reducible refine (cS _).mono ?_); rintro e w3 ⟨rfl, hb3⟩))
            go_ret
            exact ⟨rfl, below_step hb hb3⟩
          · have b1 : decide (K' < 1024) = false := decide_eq_false t1
            rw [if_neg t1] at hV
            have q1 : IntKind.i64.wrap (low' - -24) = low' + 24 := by rw [IntKind.wrap_i64]; omega
            have q2 : IntKind.i64.wrap (low' + 24 + 1) = low' + 25 := by rw [IntKind.wrap_i64]; omega
            by_cases t2 : 31 ≤ low' + 25
            · have b2 : decide (31 ≤ low' + 25) = true := decide_eq_true t2
              rw [if_pos (by omega)] at hV
              have hV' : sg + 31744 = V := by omega
              rw [hV'] at cI
              go_wp2_with (first | (go_at_call 95; (with_reducible refine (cm _).mono ?_); rintro e w3 ⟨rfl, hb3⟩; obtain ⟨hc3, hf3⟩ := bcell hb3; have k0 : w3.cell? ⟨w.heap.size, 0, none⟩ = some (.int .u64 5) := (by rw [hc3 _ _ xs]; exact x0); have k1 : w3.cell? ⟨w.heap.size, 1, none⟩ = some (.int .u64 10) := (by rw [hc3 _ _ xs]; exact x1)) | (go_at_call 96; (with_reducible refine (cI _).mono ?_); rintro e w4 ⟨rfl, hb4⟩))
              go_ret
              exact ⟨rfl, below_step (below_step hb hb3) hb4⟩
            · have b2 : decide (31 ≤ low' + 25) = false := decide_eq_false t2
              rw [if_neg (by omega)] at hV
              have q3 : IntKind.u32.wrap (low' + 25) = low' + 25 := by rw [IntKind.wrap_u32]; omega
              have e1 : bits .or .u32 sg ((low' + 25) * 1024) = sg + (low' + 25) * 1024 := or_add 15 (by decide) _ _ (by omega) (by omega) (by omega) (by omega) (by omega)
              have e2 : bits .and .u32 K' 1023 = K' % 1024 := Pl.and_mask .u32 10 (by decide) K'
              have e3 : bits .or .u32 (sg + (low' + 25) * 1024) (K' % 1024) = V := by rw [or_add 10 (by decide) _ _ (by omega) (by omega) (by omega) (by omega) (by omega)]; omega
              have kk1 : IntKind.u32.wrap 1024 = 1024 := by decide
              have kk2 : IntKind.u32.wrap (1024 - 1) = 1023 := by decide
              have kk3 : IntKind.u32.wrap 1023 = 1023 := by decide
              have kk4 : IntKind.u32.wrap (IntKind.u32.wrap 1024 - 1) = 1023 := by decide
              have k9 : IntKind.u32.wrap ((low' + 25) * 1024) = (low' + 25) * 1024 := by rw [IntKind.wrap_u32]; omega
              go_wp2_with (first | (go_at_call 95; (with_reducible refine (cm _).mono ?_); rintro e w3 ⟨rfl, hb3⟩; obtain ⟨hc3, hf3⟩ := bcell hb3; have k0 : w3.cell? ⟨w.heap.size, 0, none⟩ = some (.int .u64 5) := (by rw [hc3 _ _ xs]; exact x0); have k1 : w3.cell? ⟨w.heap.size, 1, none⟩ = some (.int .u64 10) := (by rw [hc3 _ _ xs]; exact x1)))
              have xs3 : w.heap.size < w3.heap.size := by have := hb3.size; omega
              go_region_held_law (fun w' => w'.cell? ⟨w.heap.size, 0, none⟩ = some (.int .u64 5) ∧ w'.cell? ⟨w.heap.size, 1, none⟩ = some (.int .u64 10)) (refine ⟨?_, ?_⟩ <;> go_simp) (first | (go_at_call 94; (with_reducible refine (cS _).mono ?_); rintro e w9 ⟨rfl, hb9⟩; obtain ⟨hc9, hf9⟩ := bcell hb9; have j0 : w9.cell? ⟨w.heap.size, 0, none⟩ = some (.int .u64 5) := (by rw [hc9 _ _ (by first | (simp; done) | (simp; omega) | omega)]; go_simp); have j1 : w9.cell? ⟨w.heap.size, 1, none⟩ = some (.int .u64 10) := (by rw [hc9 _ _ (by first | (simp; done) | (simp; omega) | omega)]; go_simp)))
              go_wp2
              go_ret
              exact ⟨rfl, below_step (below_step hb hb3) (below_step (below_drew1 (Below.refl _ _)) hb9)⟩
theorem least_s32 (w : World) : Calls Try.prog 95 #[.agg #[.int .u64 8, .int .u64 23]] w fun e w' => e = .returned (.int .i64 (-149)) ∧ Below w.heap.size w w' := Pleast.spec_l4K_least.calls 8 23 (-149) w (by decide +kernel)
def sg32 (neg : Bool) : Int := if neg then 2147483648 else 0
theorem sign_s32 (neg : Bool) (w : World) : Calls Try.prog 94 #[.agg #[.int .u64 8, .int .u64 23], .bool neg] w fun e w' => e = .returned (.int .u32 (sg32 neg)) ∧ Below w.heap.size w w' := Pinf.spec_l4K_sign.calls 8 23 neg _ w (by cases neg <;> decide +kernel)
theorem inf_s32 (neg : Bool) (w : World) : Calls Try.prog 96 #[.agg #[.int .u64 8, .int .u64 23], .bool neg] w fun e w' => e = .returned (.int .u32 (sg32 neg + 2139095040)) ∧ Below w.heap.size w w' := Pinf.spec_l4K_inf.calls 8 23 neg _ w (by cases neg <;> decide +kernel)
def Cells32 (w wx : World) : Prop := wx.cell? ⟨w.heap.size, 0, none⟩ = some (.int .u64 8) ∧ wx.cell? ⟨w.heap.size, 1, none⟩ = some (.int .u64 23) ∧ wx.frozen? ⟨w.heap.size, 0, none⟩ = false ∧ wx.frozen? ⟨w.heap.size, 1, none⟩ = false ∧ w.heap.size < wx.heap.size ∧ Below w.heap.size w wx
set_option maxRecDepth 100000 in
set_option maxHeartbeats 4000000 in
theorem round_s32 (neg more : Bool) (m : Nat) (e V : Int) (h0 : m ≠ 0) (h : m < 2 ^ 63 + 1) (he : -1000 ≤ e) (he1 : e ≤ 1000) (hV : rTail (sg32 neg) 8388608 (-149) 255 (rK m (rLow 23 (-149) (Lib.bitLen m) e - e) more) (rLow 23 (-149) (Lib.bitLen m) e) = V) (w : World) : Calls Try.prog 75 #[.agg #[.int .u64 8, .int .u64 23], .bool neg, .int .u64 m, .int .i64 e, .bool more] w fun en w' => en = .returned (.int .u32 V) ∧ Below w.heap.size w w' := by
  obtain ⟨l0, l1, l2⟩ := len_bounds m h0 (by omega)
  have l3 : Lib.bitLen m ≤ 64 := Lib.bitLen_le m 64 (by omega) (by omega)
  have cl := fun w => len_s m (by omega) w
  have cm := fun w => least_s32 w
  have z : ((m : Int) == 0) = false := beq_eq_false_iff_ne.2 (by omega)
  generalize Lib.bitLen m = L at *
  go_enter Try.func75, Try.ntmps75
  go_upto_region 3 with fail
  go_cut [11] (fun s11 wx => s11 = .int .i64 (e + L - 24) ∧ Cells32 w wx)
  case first =>
    have kw : IntKind.i64.wrap 23 = 23 := by decide
    go_region_held_law (fun w' => w'.cell? ⟨w.heap.size, 0, none⟩ = some (.int .u64 8) ∧ w'.cell? ⟨w.heap.size, 1, none⟩ = some (.int .u64 23)) (refine ⟨?_, ?_⟩ <;> go_simp) (first | (go_at_call 74; (with_reducible refine (cl _).mono ?_); rintro e w9 ⟨rfl, hb9⟩; obtain ⟨hc9, hf9⟩ := bcell hb9; have j0 : w9.cell? ⟨w.heap.size, 0, none⟩ = some (.int .u64 8) := (by rw [hc9 _ _ (by first | (simp; done) | (simp; omega) | omega)]; go_simp); have j1 : w9.cell? ⟨w.heap.size, 1, none⟩ = some (.int .u64 23) := (by rw [hc9 _ _ (by first | (simp; done) | (simp; omega) | omega)]; go_simp)))
    go_wp2_with fail
    go_meet
    case rel => exact ⟨congrArg (Value.int .i64) (by simp only [IntKind.wrap_i64]; omega), j0, j1, by rw [hf9 _ _ (by simp)]; go_simp, by rw [hf9 _ _ (by simp)]; go_simp, by have := hb9.size; simp at this; omega, by repeat (first | (with_reducible exact Below.refl _ _) | (with_reducible refine below_alloc ?_ _) | (with_reducible refine below_drew1 ?_) | (with_reducible refine below_step ?_ hb9))⟩
  case rest =>
    obtain ⟨rfl, x0, x1, y0, y1, xs, hb⟩ := hcut
    clear cl
    go_upto_if 33 with (first | (go_at_call 95; (with_reducible refine (cm _).mono ?_); rintro e w2 ⟨rfl, hb2⟩; obtain ⟨hc2, hf2⟩ := bcell hb2; have k0 : w2.cell? ⟨w.heap.size, 0, none⟩ = some (.int .u64 8) := (by rw [hc2 _ _ xs]; exact x0); have k1 : w2.cell? ⟨w.heap.size, 1, none⟩ = some (.int .u64 23) := (by rw [hc2 _ _ xs]; exact x1)))
    have v0 : w2.frozen? ⟨w.heap.size, 0, none⟩ = false := by rw [hf2 _ _ xs]; exact y0
    have v1 : w2.frozen? ⟨w.heap.size, 1, none⟩ = false := by rw [hf2 _ _ xs]; exact y1
    have xs2 : w.heap.size < w2.heap.size := by have := hb2.size; omega
    have hB2 : Below w.heap.size w w2 := below_step hb hb2
    clear hb2 hc2 hf2 hb x0 x1 y0 y1 xs
    go_cut [11] (fun s11 wx => s11 = .int .i64 (rLow 23 (-149) L e) ∧ Cells32 w wx)
    case first =>
      by_cases c : e + (L : Int) - 24 < -149
      · have cb : decide (e + (L : Int) - 24 < -149) = true := decide_eq_true c
        go_wp2_with (first | (go_at_call 95; (with_reducible refine (cm _).mono ?_); rintro e w3 ⟨rfl, hb3⟩; obtain ⟨hc3, hf3⟩ := bcell hb3))
        go_meet
        case rel => exact ⟨by unfold rLow; rw [if_pos (by omega)], by rw [hc3 _ _ xs2]; exact k0, by rw [hc3 _ _ xs2]; exact k1, by rw [hf3 _ _ xs2]; exact v0, by rw [hf3 _ _ xs2]; exact v1, by have := hb3.size; omega, below_step hB2 hb3⟩
      · have cb : decide (e + (L : Int) - 24 < -149) = false := decide_eq_false c
        go_wp2_with fail
        go_meet
        case rel => exact ⟨by unfold rLow; rw [if_neg (by omega)]; congr 1; omega, k0, k1, v0, v1, xs2, hB2⟩
    case rest =>
      clear k0 k1 v0 v1 xs2 hB2
      obtain ⟨rfl, x0, x1, y0, y1, xs, hb⟩ := hcut
      have hl : -149 ≤ rLow 23 (-149) L e ∧ e + L - 24 ≤ rLow 23 (-149) L e ∧ (rLow 23 (-149) L e = -149 ∨ rLow 23 (-149) L e = e + L - 24) := by unfold rLow; split <;> omega
      generalize rLow 23 (-149) L e = low at *
      obtain ⟨hl1, hl2, hl3⟩ := hl
      have hsh : IntKind.i64.wrap (low - e) = low - e := by rw [IntKind.wrap_i64]; omega
      go_upto_if 40 with fail
      go_cut [2, 4, 12, 13, 14] (fun s2 s4 s12 s13 s14 wx => s2 = .int .u64 (rK m (low - e) more) ∧ Cells32 w wx)
      case first =>
        by_cases c1 : low - e ≤ 0
        · obtain ⟨t, ht⟩ : ∃ t : Nat, e - low = t := ⟨(e - low).toNat, by omega⟩
          have d1 : decide (low - e ≤ 0) = true := decide_eq_true c1
          have d2 : (-(low - e)).toNat = t := by omega
          have d3 : m * 2 ^ t < 2 ^ 64 := by
            have h1 : m * 2 ^ t < 2 ^ L * 2 ^ t := Nat.mul_lt_mul_of_pos_right l2 (Nat.two_pow_pos _)
            rw [← Nat.pow_add] at h1
            exact Nat.lt_of_lt_of_le h1 (Nat.pow_le_pow_right (by decide) (by omega))
          have d4 : rK m (low - e) more = (m : Int) * 2 ^ t := by unfold rK; rw [if_pos c1, d2]
          have d5 : IntKind.u64.wrap ((m : Int) * 2 ^ t) = (m : Int) * 2 ^ t := by
            rw [IntKind.wrap_u64, ← pow_nat, ← Int.natCast_mul]; omega
          clear d3
          go_wp2_with fail
          go_meet
          case rel => exact ⟨by rw [d4], x0, x1, y0, y1, xs, hb⟩
        · by_cases c2 : low - e < 64
          · obtain ⟨t, ht⟩ : ∃ t : Nat, low - e = t := ⟨(low - e).toNat, by omega⟩
            have d1 : decide (low - e ≤ 0) = false := decide_eq_false c1
            have d2 : decide (low - e < 64) = true := decide_eq_true c2
            have d3 : (low - e).toNat = t := by omega
            have t1 : 1 ≤ t := by omega
            have t2 : t ≤ 63 := by omega
            have e1 := wrap_pow t t2
            have e1' := wrap_mask t t2
            have e2 := wrap_pow (t - 1) (by omega)
            have e3 : bits .and .u64 (m : Int) ((2 : Int) ^ t - 1) = (m : Int) % 2 ^ t := Pl.and_mask .u64 t (show t < 64 by omega) m
            have d4 : rK m (low - e) more = (m : Int) / 2 ^ t + (if rUp m t more then 1 else 0) := by unfold rK; rw [if_neg c1, if_pos c2, d3]
            have q1 : (m : Int) / 2 ^ t < 2 ^ 63 := by
              have : m / 2 ^ t < 2 ^ 63 := by
                have h1 : m / 2 ^ t ≤ m / 2 ^ 1 := Nat.div_le_div_left (Nat.pow_le_pow_right (by decide) t1) (by decide)
                omega
              rw [← pow_nat, ← Int.natCast_ediv]; omega
            have q0 : 0 ≤ (m : Int) / 2 ^ t := Int.ediv_nonneg (by omega) (Int.pow_nonneg (by decide))
            unfold rUp at d4
            generalize hH : (2 : Int) ^ (t - 1) = H at *
            generalize hR : (m : Int) % 2 ^ t = R at *
            generalize hQ : (m : Int) / 2 ^ t = Q at *
            have e4 : bits .and .u64 Q 1 = Q % 2 := and_one .u64 (by decide) Q
            have e5 : IntKind.u64.wrap (Q + 1) = Q + 1 := by rw [IntKind.wrap_u64]; omega
            by_cases u1 : H < R
            · have b1 : decide (H < R) = true := decide_eq_true u1
              go_wp2_with fail
              go_meet
              case rel => exact ⟨by rw [d4, b1]; rfl, x0, x1, y0, y1, xs, hb⟩
            · have b1 : decide (H < R) = false := decide_eq_false u1
              by_cases u2 : R = H
              · have b2 : (R == H) = true := beq_iff_eq.2 u2
                have b3 : decide (R = H) = true := decide_eq_true u2
                cases more with
                | true =>
                  go_wp2_with fail
                  go_meet
                  case rel => exact ⟨by rw [d4, b1, b3]; rfl, x0, x1, y0, y1, xs, hb⟩
                | false =>
                  by_cases u3 : Q % 2 = 1
                  · have b4 : (Q % 2 == 1) = true := beq_iff_eq.2 u3
                    have b5 : decide (Q % 2 = 1) = true := decide_eq_true u3
                    go_wp2_with fail
                    go_meet
                    case rel => exact ⟨by rw [d4, b1, b3, b5]; rfl, x0, x1, y0, y1, xs, hb⟩
                  · have b4 : (Q % 2 == 1) = false := beq_eq_false_iff_ne.2 u3
                    have b5 : decide (Q % 2 = 1) = false := decide_eq_false u3
                    go_wp2_with fail
                    go_meet
                    case rel => exact ⟨by rw [d4, b1, b3, b5]; simp, x0, x1, y0, y1, xs, hb⟩
              · have b2 : (R == H) = false := beq_eq_false_iff_ne.2 u2
                have b3 : decide (R = H) = false := decide_eq_false u2
                go_wp2_with fail
                go_meet
                case rel => exact ⟨by rw [d4, b1, b3]; simp, x0, x1, y0, y1, xs, hb⟩
          · have d1 : decide (low - e ≤ 0) = false := decide_eq_false c1
            have d2 : decide (low - e < 64) = false := decide_eq_false c2
            have d4 : rK m (low - e) more = 0 := by unfold rK; rw [if_neg c1, if_neg c2]
            go_wp2_with fail
            go_meet
            case rel => exact ⟨by rw [d4], x0, x1, y0, y1, xs, hb⟩
      case rest =>
        have hK := rK_le 24 (by decide) m L l2 (low - e) (by omega) more
        generalize rK m (low - e) more = K at *
        clear x0 x1 y0 y1 xs hb
        obtain ⟨rfl, x0, x1, y0, y1, xs, hb⟩ := hcut
        go_upto_if 86 with fail
        go_cut [2, 11] (fun s2 s11 wx => ∃ K' low' : Int, s2 = .int .u64 K' ∧ s11 = .int .i64 low' ∧ rTail (sg32 neg) 8388608 (-149) 255 K low = rOut (sg32 neg) 8388608 (-149) 255 K' low' ∧ 0 ≤ K' ∧ K' < 16777216 ∧ -149 ≤ low' ∧ low' ≤ 2000 ∧ Cells32 w wx)
        case first =>
          by_cases c : K = 16777216
          · subst c
            have b1 : IntKind.i64.wrap (low + 1) = low + 1 := by rw [IntKind.wrap_i64]; omega
            go_wp2_with fail
            go_meet
            case rel => exact ⟨8388608, low + 1, rfl, rfl, rfl, by omega, by omega, by omega, by omega, x0, x1, y0, y1, xs, hb⟩
          · have b1 : (K == 16777216) = false := beq_eq_false_iff_ne.2 c
            go_wp2_with fail
            go_meet
            case rel => exact ⟨K, low, rfl, rfl, by unfold rTail; rw [if_neg (by omega)], by omega, by omega, by omega, by omega, x0, x1, y0, y1, xs, hb⟩
        case rest =>
          clear hK hl1 hl2 hl3 hsh x0 x1 y0 y1 xs hb
          obtain ⟨K', low', rfl, rfl, hW, hK0, hK1, hl0, hl1, x0, x1, y0, y1, xs, hb⟩ := hcut
          rw [hW] at hV
          clear hW
          unfold rOut at hV
          have cS := fun w => sign_s32 neg w
          have cI := fun w => inf_s32 neg w
          have hsg : sg32 neg = 0 ∨ sg32 neg = 2147483648 := by cases neg <;> decide
          generalize sg32 neg = sg at *
          have q0 : IntKind.u32.wrap K' = K' := by rw [IntKind.wrap_u32]; omega
          by_cases t1 : K' < 8388608
          · have b1 : decide (K' < 8388608) = true := decide_eq_true t1
            rw [if_pos t1] at hV
            have q1 : bits .or .u32 sg K' = V := by rw [or_add 23 (by decide) sg K' (by omega) (by omega) hK0 (by omega) (by omega)]; exact hV
            go_wp2_with (first | (go_at_call 94; (with_reducible refine (cS _).mono ?_); rintro e w3 ⟨rfl, hb3⟩))
            go_ret
            exact ⟨rfl, below_step hb hb3⟩
          · have b1 : decide (K' < 8388608) = false := decide_eq_false t1
            rw [if_neg t1] at hV
            have q1 : IntKind.i64.wrap (low' - -149) = low' + 149 := by rw [IntKind.wrap_i64]; omega
            have q2 : IntKind.i64.wrap (low' + 149 + 1) = low' + 150 := by rw [IntKind.wrap_i64]; omega
            by_cases t2 : 255 ≤ low' + 150
            · have b2 : decide (255 ≤ low' + 150) = true := decide_eq_true t2
              rw [if_pos (by omega)] at hV
              have hV' : sg + 2139095040 = V := by omega
              rw [hV'] at cI
              go_wp2_with (first | (go_at_call 95; (with_reducible refine (cm _).mono ?_); rintro e w3 ⟨rfl, hb3⟩; obtain ⟨hc3, hf3⟩ := bcell hb3; have k0 : w3.cell? ⟨w.heap.size, 0, none⟩ = some (.int .u64 8) := (by rw [hc3 _ _ xs]; exact x0); have k1 : w3.cell? ⟨w.heap.size, 1, none⟩ = some (.int .u64 23) := (by rw [hc3 _ _ xs]; exact x1)) | (go_at_call 96; (with_reducible refine (cI _).mono ?_); rintro e w4 ⟨rfl, hb4⟩))
              go_ret
              exact ⟨rfl, below_step (below_step hb hb3) hb4⟩
            · have b2 : decide (255 ≤ low' + 150) = false := decide_eq_false t2
              rw [if_neg (by omega)] at hV
              have q3 : IntKind.u32.wrap (low' + 150) = low' + 150 := by rw [IntKind.wrap_u32]; omega
              have e1 : bits .or .u32 sg ((low' + 150) * 8388608) = sg + (low' + 150) * 8388608 := or_add 31 (by decide) _ _ (by omega) (by omega) (by omega) (by omega) (by omega)
              have e2 : bits .and .u32 K' 8388607 = K' % 8388608 := Pl.and_mask .u32 23 (by decide) K'
              have e3 : bits .or .u32 (sg + (low' + 150) * 8388608) (K' % 8388608) = V := by rw [or_add 23 (by decide) _ _ (by omega) (by omega) (by omega) (by omega) (by omega)]; omega
              have kk1 : IntKind.u32.wrap 8388608 = 8388608 := by decide
              have kk2 : IntKind.u32.wrap (8388608 - 1) = 8388607 := by decide
              have kk3 : IntKind.u32.wrap 8388607 = 8388607 := by decide
              have kk4 : IntKind.u32.wrap (IntKind.u32.wrap 8388608 - 1) = 8388607 := by decide
              have k9 : IntKind.u32.wrap ((low' + 150) * 8388608) = (low' + 150) * 8388608 := by rw [IntKind.wrap_u32]; omega
              go_wp2_with (first | (go_at_call 95; (with_reducible refine (cm _).mono ?_); rintro e w3 ⟨rfl, hb3⟩; obtain ⟨hc3, hf3⟩ := bcell hb3; have k0 : w3.cell? ⟨w.heap.size, 0, none⟩ = some (.int .u64 8) := (by rw [hc3 _ _ xs]; exact x0); have k1 : w3.cell? ⟨w.heap.size, 1, none⟩ = some (.int .u64 23) := (by rw [hc3 _ _ xs]; exact x1)))
              have xs3 : w.heap.size < w3.heap.size := by have := hb3.size; omega
              go_region_held_law (fun w' => w'.cell? ⟨w.heap.size, 0, none⟩ = some (.int .u64 8) ∧ w'.cell? ⟨w.heap.size, 1, none⟩ = some (.int .u64 23)) (refine ⟨?_, ?_⟩ <;> go_simp) (first | (go_at_call 94; (with_reducible refine (cS _).mono ?_); rintro e w9 ⟨rfl, hb9⟩; obtain ⟨hc9, hf9⟩ := bcell hb9; have j0 : w9.cell? ⟨w.heap.size, 0, none⟩ = some (.int .u64 8) := (by rw [hc9 _ _ (by first | (simp; done) | (simp; omega) | omega)]; go_simp); have j1 : w9.cell? ⟨w.heap.size, 1, none⟩ = some (.int .u64 23) := (by rw [hc9 _ _ (by first | (simp; done) | (simp; omega) | omega)]; go_simp)))
              go_wp2
              go_ret
              exact ⟨rfl, below_step (below_step hb hb3) (below_step (below_drew1 (Below.refl _ _)) hb9)⟩
end Go.Proofs.Ytfmmmfddpfddoaa.OwnRnd
