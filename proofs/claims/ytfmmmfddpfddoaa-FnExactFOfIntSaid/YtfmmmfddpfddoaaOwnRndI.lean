/- Rounding, the program: walks of our own. -/
import Derived.Test.YtfmmmfddpfddoaaOwnRnd
import Derived.Test.YtfmmmfddpfddoaaShelf
import Derived.Test.YtfmmmfddpfddoaaPinfinitex1
namespace Go.Proofs.Ytfmmmfddpfddoaa.OwnRndI
open Go Go.RowKit Go.Proofs.YtfmmmfddpfddoaaW.PrintWords Go.Proofs.YtfmmmfddpfddoaaW.PrintLast Go.Proofs.YtfmmmfddpfddoaaW.PrintMore Go.Proofs.Ytfmmmfddpfddoaa.OwnRnd
set_option linter.unusedVariables false
set_option linter.unusedSimpArgs false
theorem len_i (m : Nat) (h : m < 2 ^ 64) (w : World) : Calls Try.prog 76 #[.int .u64 m] w fun e w' => e = .returned (.int .i64 (Lib.bitLen m)) ∧ w' = w := by
  have := Try.bits_Len64 (m : Int) w (by omega) (by omega)
  rw [Int.toNat_natCast] at this
  exact this
theorem top_i16 (w : World) : Calls Try.prog 85 #[.agg #[.int .i64 10, .int .i64 15]] w fun e w' => e = .returned (.int .u32 31) ∧ Below w.heap.size w w' := Pinfinite.impl_format_top.calls 10 15 31 w (by decide +kernel)
theorem inf_i16 (neg : Bool) (w : World) : Calls Try.prog 98 #[.agg #[.int .i64 10, .int .i64 15], .bool neg] w fun e w' => e = .returned (.int .u32 (sg16 neg + 31744)) ∧ Below w.heap.size w w' := Pinfinite.impl_format_infinite.calls 10 15 neg _ w (by cases neg <;> decide +kernel)
theorem signed_i16 (neg : Bool) (a : Int) (h0 : 0 ≤ a) (h1 : a < 32768) (w : World) : Calls Try.prog 97 #[.agg #[.int .i64 10, .int .i64 15], .bool neg, .int .u32 a] w fun e w' => e = .returned (.int .u32 (sg16 neg + a)) ∧ Below w.heap.size w w' := Pinfinite.impl_format_signed.calls 10 15 neg a _ w (by
  unfold Pinfinite.impl_format_signed.f sg16
  have hs : Pinfinite.impl_format_sign.f 10 15 = some 32768 := by decide +kernel
  cases neg with
  | false => rw [if_neg (by decide), if_neg (by decide)]; exact congrArg some (by omega)
  | true =>
    rw [if_pos rfl, hs, Option.bind_some, if_pos rfl, Pl.or_comm]
    exact congrArg some (or_add 15 (by decide) _ _ (by omega) (by omega) (by omega) (by omega) (by omega)))
def CellsI16 (w wx : World) : Prop := wx.cell? ⟨w.heap.size, 0, none⟩ = some (.int .i64 10) ∧ wx.cell? ⟨w.heap.size, 1, none⟩ = some (.int .i64 15) ∧ wx.frozen? ⟨w.heap.size, 0, none⟩ = false ∧ wx.frozen? ⟨w.heap.size, 1, none⟩ = false ∧ w.heap.size < wx.heap.size ∧ Below w.heap.size w wx
set_option maxRecDepth 100000 in
set_option maxHeartbeats 8000000 in
theorem round_i16 (neg more : Bool) (m : Nat) (e V : Int) (h0 : m ≠ 0) (h : m < 2 ^ 63 + 1) (he : -1000 ≤ e) (he1 : e ≤ 1000) (hm : 62 < rLow 10 (-24) (Lib.bitLen m) e - e → m < 2 ^ 60) (hV : rTail (sg16 neg) 1024 (-24) 31 (rK m (rLow 10 (-24) (Lib.bitLen m) e - e) more) (rLow 10 (-24) (Lib.bitLen m) e) = V) (w : World) : Calls Try.prog 77 #[.agg #[.int .i64 10, .int .i64 15], .bool neg, .int .u64 m, .int .i64 e, .bool more] w fun en w' => en = .returned (.int .u32 V) ∧ Below w.heap.size w w' := by
  obtain ⟨l0, l1, l2⟩ := len_bounds m h0 (by omega)
  have l3 : Lib.bitLen m ≤ 64 := Lib.bitLen_le m 64 (by omega) (by omega)
  have cl := fun w => len_i m (by omega) w
  have z : ((m : Int) == 0) = false := beq_eq_false_iff_ne.2 (by omega)
  generalize Lib.bitLen m = L at *
  go_enter Try.func77, Try.ntmps77
  go_upto_region 3 with fail
  go_cut [11] (fun s11 wx => s11 = .int .i64 (rLow 10 (-24) L e) ∧ CellsI16 w wx)
  case first =>
    have w1 : IntKind.i64.wrap ((L : Int) - 1) = (L : Int) - 1 := by rw [IntKind.wrap_i64]; omega
    have w2 : IntKind.i64.wrap ((L : Int) - 1 + e) = (L : Int) - 1 + e := by rw [IntKind.wrap_i64]; omega
    have w3 : IntKind.i64.wrap ((L : Int) - 1 + e - 10) = (L : Int) - 1 + e - 10 := by rw [IntKind.wrap_i64]; omega
    have w4 : IntKind.i64.wrap (1 - 15) = 1 - 15 := by decide
    have w5 : IntKind.i64.wrap (1 - 15 - 10) = -24 := by decide
    have hmax : max ((L : Int) - 1 + e - 10) (IntKind.i64.wrap (IntKind.i64.wrap (1 - 15) - 10)) = rLow 10 (-24) L e := by
      rw [show IntKind.i64.wrap (IntKind.i64.wrap (1 - 15) - 10) = -24 by decide]
      unfold rLow
      split <;> omega
    go_region_held_law (fun w' => w'.cell? ⟨w.heap.size, 0, none⟩ = some (.int .i64 10) ∧ w'.cell? ⟨w.heap.size, 1, none⟩ = some (.int .i64 15)) (refine ⟨?_, ?_⟩ <;> go_simp) (first | (go_at_call 76; (with_reducible refine (cl _).mono ?_); rintro e w9 ⟨rfl, rfl⟩))
    go_wp2_with fail
    go_meet
    case rel => exact ⟨congrArg (Value.int .i64) hmax, by go_simp, by go_simp, by go_simp, by go_simp, by simp, by repeat (first | (with_reducible exact Below.refl _ _) | (with_reducible refine below_alloc ?_ _) | (with_reducible refine below_drew1 ?_))⟩
  case rest =>
    obtain ⟨rfl, x0, x1, y0, y1, xs, hb⟩ := hcut
    clear cl
    have hl : -24 ≤ rLow 10 (-24) L e ∧ e + L - 11 ≤ rLow 10 (-24) L e ∧ (rLow 10 (-24) L e = -24 ∨ rLow 10 (-24) L e = e + L - 11) := by unfold rLow; split <;> omega
    generalize rLow 10 (-24) L e = low at *
    obtain ⟨hl1, hl2, hl3⟩ := hl
    have hsh : IntKind.i64.wrap (low - e) = low - e := by rw [IntKind.wrap_i64]; omega
    go_upto_if 42 with fail
    go_cut [12, 14, 15] (fun s12 s14 s15 wx => s12 = .int .u64 (rK m (low - e) more) ∧ CellsI16 w wx)
    case first =>
      by_cases c0 : 62 < low - e
      · have d0 : decide (62 < low - e) = true := decide_eq_true c0
        have d4 : rK m (low - e) more = 0 := by
          have hm2 := hm c0
          unfold rK
          rw [if_neg (by omega)]
          by_cases c9 : low - e < 64
          · rw [if_pos c9, show (low - e).toNat = 63 by omega]
            unfold rUp
            have g1 : (m : Int) / 2 ^ 63 = 0 := by omega
            have g2 : (m : Int) % 2 ^ 63 = m := by omega
            rw [g1, g2, decide_eq_false (by omega), decide_eq_false (by omega)]
            rfl
          · rw [if_neg c9]
        clear hm
        go_wp2_with fail
        go_meet
        case rel => exact ⟨by rw [d4], x0, x1, y0, y1, xs, hb⟩
      · have d0 : decide (62 < low - e) = false := decide_eq_false c0
        clear hm
        by_cases c1 : low - e ≤ 0
        · obtain ⟨t, ht⟩ : ∃ t : Nat, e - low = t := ⟨(e - low).toNat, by omega⟩
          have d1 : decide (0 < low - e) = false := decide_eq_false (by omega)
          have d2 : (-(low - e)).toNat = t := by omega
          have d7 : IntKind.i64.wrap (-(low - e)) = -(low - e) := by rw [IntKind.wrap_i64]; omega
          have d8 : 0 ≤ -(low - e) := by omega
          have d3 : m * 2 ^ t < 2 ^ 64 := by
            have h1 : m * 2 ^ t < 2 ^ L * 2 ^ t := Nat.mul_lt_mul_of_pos_right l2 (Nat.two_pow_pos _)
            rw [← Nat.pow_add] at h1
            exact Nat.lt_of_lt_of_le h1 (Nat.pow_le_pow_right (by decide) (by omega))
          have d4 : rK m (low - e) more = (m : Int) * 2 ^ t := by unfold rK; rw [if_pos c1, d2]
          have d5 : IntKind.u64.wrap ((m : Int) * 2 ^ t) = (m : Int) * 2 ^ t := by
            rw [IntKind.wrap_u64, ← pow_nat, ← Int.natCast_mul]; omega
          clear d3 ht
          go_wp2_with fail
          go_meet
          case rel => exact ⟨by rw [d4], x0, x1, y0, y1, xs, hb⟩
        · obtain ⟨t, ht⟩ : ∃ t : Nat, low - e = t := ⟨(low - e).toNat, by omega⟩
          have d1 : decide (0 < low - e) = true := decide_eq_true (by omega)
          have d3 : (low - e).toNat = t := by omega
          have d6 : (low - e - 1).toNat = t - 1 := by omega
          have d7 : IntKind.i64.wrap (low - e - 1) = low - e - 1 := by rw [IntKind.wrap_i64]; omega
          have d8 : 0 ≤ low - e - 1 := by omega
          have d9 : 0 ≤ low - e := by omega
          have t1 : 1 ≤ t := by omega
          have t2 : t ≤ 62 := by omega
          have e2 := wrap_pow (t - 1) (by omega)
          have e3 : bits .and .u64 (m : Int) ((2 : Int) ^ t - 1) = (m : Int) % 2 ^ t := Pl.and_mask .u64 t (show t < 64 by omega) m
          have hH2 : (2 : Int) * 2 ^ (t - 1) = 2 ^ t := by
            rw [← Int.pow_succ', show t - 1 + 1 = t by omega]
          rw [← hH2] at e3
          have e7 : (2 : Int) ^ (t - 1) ≤ 2 ^ 62 := by
            rw [← pow_nat, ← pow_nat]
            exact Int.ofNat_le.2 (Nat.pow_le_pow_right (by decide) (by omega))
          have e8 : (0 : Int) < 2 ^ (t - 1) := Int.pow_pos (by decide)
          have d4 : rK m (low - e) more = (m : Int) / 2 ^ t + (if rUp m t more then 1 else 0) := by unfold rK; rw [if_neg c1, if_pos (by omega), d3]
          have q1 : (m : Int) / 2 ^ t < 2 ^ 63 := by
            have : m / 2 ^ t < 2 ^ 63 := by
              have h1 : m / 2 ^ t ≤ m / 2 ^ 1 := Nat.div_le_div_left (Nat.pow_le_pow_right (by decide) t1) (by decide)
              omega
            rw [← pow_nat, ← Int.natCast_ediv]; omega
          have q0 : 0 ≤ (m : Int) / 2 ^ t := Int.ediv_nonneg (by omega) (Int.pow_nonneg (by decide))
          unfold rUp at d4
          rw [← hH2] at d4 q1 q0
          generalize hR : (m : Int) % (2 * 2 ^ (t - 1)) = R at *
          generalize hQ : (m : Int) / (2 * 2 ^ (t - 1)) = Q at *
          rw [hH2] at hR hQ
          have hQ' : (m : Int) / 2 ^ t = Q := hQ
          clear hR hQ hH2
          generalize hH : (2 : Int) ^ (t - 1) = H at *
          clear ht
          have e4 : bits .and .u64 Q 1 = Q % 2 := and_one .u64 (by decide) Q
          have e5 : IntKind.u64.wrap (Q + 1) = Q + 1 := by rw [IntKind.wrap_u64]; omega
          have e9 : IntKind.u64.wrap (2 * H) = 2 * H := by rw [IntKind.wrap_u64]; omega
          have e10 : IntKind.u64.wrap (2 * H - 1) = 2 * H - 1 := by rw [IntKind.wrap_u64]; omega
          by_cases u1 : H < R
          · have b1 : decide (H < R) = true := decide_eq_true u1
            go_wp2_with fail
            go_meet
            case rel => exact ⟨by rw [d4, b1]; rfl, x0, x1, y0, y1, xs, hb⟩
          · have b1 : decide (H < R) = false := decide_eq_false u1
            by_cases u2 : R = H
            · have b2 : (R == H) = true := beq_iff_eq.2 u2
              have b3 : decide (R = H) = true := decide_eq_true u2
              cases more with
              | true =>
                go_wp2_with fail
                go_meet
                case rel => exact ⟨by rw [d4, b1, b3]; rfl, x0, x1, y0, y1, xs, hb⟩
              | false =>
                by_cases u3 : Q % 2 = 1
                · have b4 : (Q % 2 == 1) = true := beq_iff_eq.2 u3
                  have b5 : decide (Q % 2 = 1) = true := decide_eq_true u3
                  go_wp2_with fail
                  go_meet
                  case rel => exact ⟨by rw [d4, b1, b3, b5]; rfl, x0, x1, y0, y1, xs, hb⟩
                · have b4 : (Q % 2 == 1) = false := beq_eq_false_iff_ne.2 u3
                  have b5 : decide (Q % 2 = 1) = false := decide_eq_false u3
                  go_wp2_with fail
                  go_meet
                  case rel => exact ⟨by rw [d4, b1, b3, b5]; simp, x0, x1, y0, y1, xs, hb⟩
            · have b2 : (R == H) = false := beq_eq_false_iff_ne.2 u2
              have b3 : decide (R = H) = false := decide_eq_false u2
              go_wp2_with fail
              go_meet
              case rel => exact ⟨by rw [d4, b1, b3]; simp, x0, x1, y0, y1, xs, hb⟩
    case rest =>
      have hK := rK_le 11 (by decide) m L l2 (low - e) (by omega) more
      generalize rK m (low - e) more = K at *
      clear x0 x1 y0 y1 xs hb hm
      obtain ⟨rfl, x0, x1, y0, y1, xs, hb⟩ := hcut
      go_upto_if 82 with fail
      go_cut [11, 12] (fun s11 s12 wx => ∃ K' low' : Int, s12 = .int .u64 K' ∧ s11 = .int .i64 low' ∧ rTail (sg16 neg) 1024 (-24) 31 K low = rOut (sg16 neg) 1024 (-24) 31 K' low' ∧ 0 ≤ K' ∧ K' < 2048 ∧ -24 ≤ low' ∧ low' ≤ 2000 ∧ CellsI16 w wx)
      case first =>
        by_cases c : K = 2048
        · subst c
          have b1 : IntKind.i64.wrap (low + 1) = low + 1 := by rw [IntKind.wrap_i64]; omega
          go_wp2_with fail
          go_meet
          case rel => exact ⟨1024, low + 1, rfl, rfl, rfl, by omega, by omega, by omega, by omega, x0, x1, y0, y1, xs, hb⟩
        · have b1 : (K == 2048) = false := beq_eq_false_iff_ne.2 c
          go_wp2_with fail
          go_meet
          case rel => exact ⟨K, low, rfl, rfl, by unfold rTail; rw [if_neg (by omega)], by omega, by omega, by omega, by omega, x0, x1, y0, y1, xs, hb⟩
      case rest =>
        clear hK hl1 hl2 hl3 hsh x0 x1 y0 y1 xs hb
        obtain ⟨K', low', rfl, rfl, hW, hK0, hK1, hl0, hl1, x0, x1, y0, y1, xs, hb⟩ := hcut
        rw [hW] at hV
        clear hW
        unfold rOut at hV
        have cS := fun a h0 h1 w => signed_i16 neg a h0 h1 w
        have cI := fun w => inf_i16 neg w
        have cT := fun w => top_i16 w
        generalize sg16 neg = sg at *
        have q0 : IntKind.u32.wrap K' = K' := by rw [IntKind.wrap_u32]; omega
        by_cases t1 : K' < 1024
        · have b1 : decide (K' < 1024) = true := decide_eq_true t1
          rw [if_pos t1] at hV
          replace cS := cS K' (by omega) (by omega)
          rw [hV] at cS
          go_wp2_with (first | (go_at_call 97; (with_reducible refine (cS _).mono ?_); rintro e w3 ⟨rfl, hb3⟩))
          go_ret
          exact ⟨rfl, below_step hb hb3⟩
        · have b1 : decide (K' < 1024) = false := decide_eq_false t1
          rw [if_neg t1] at hV
          have q1 : IntKind.i64.wrap (low' + 15) = low' + 15 := by rw [IntKind.wrap_i64]; omega
          have q2 : IntKind.i64.wrap (low' + 15 + 10) = low' + 25 := by rw [IntKind.wrap_i64]; omega
          have q5 : low' + 15 + 10 = low' + 25 := by omega
          by_cases t2 : 31 ≤ low' + 25
          · have b2 : decide (31 ≤ low' + 25) = true := decide_eq_true t2
            rw [if_pos (by omega)] at hV
            have hV' : sg + 31744 = V := by omega
            rw [hV'] at cI
            go_wp2_with (first | (go_at_call 85; (with_reducible refine (cT _).mono ?_); rintro e w3 ⟨rfl, hb3⟩; obtain ⟨hc3, hf3⟩ := bcell hb3; have k0 : w3.cell? ⟨w.heap.size, 0, none⟩ = some (.int .i64 10) := (by rw [hc3 _ _ xs]; exact x0); have k1 : w3.cell? ⟨w.heap.size, 1, none⟩ = some (.int .i64 15) := (by rw [hc3 _ _ xs]; exact x1)) | (go_at_call 98; (with_reducible refine (cI _).mono ?_); rintro e w4 ⟨rfl, hb4⟩))
            go_ret
            exact ⟨rfl, below_step (below_step hb hb3) hb4⟩
          · have b2 : decide (31 ≤ low' + 25) = false := decide_eq_false t2
            rw [if_neg (by omega)] at hV
            have q3 : IntKind.u32.wrap (low' + 25) = low' + 25 := by rw [IntKind.wrap_u32]; omega
            have q4 : IntKind.u32.wrap ((low' + 25) * 1024) = (low' + 25) * 1024 := by rw [IntKind.wrap_u32]; omega
            have q6 : IntKind.u64.wrap (K' - 1024) = K' - 1024 := by rw [IntKind.wrap_u64]; omega
            have q7 : IntKind.u32.wrap (K' - 1024) = K' - 1024 := by rw [IntKind.wrap_u32]; omega
            have q8 : IntKind.u64.wrap 1024 = 1024 := by decide
            have e1 : bits .or .u32 ((low' + 25) * 1024) (K' - 1024) = (low' + 25) * 1024 + (K' - 1024) := or_add 10 (by decide) _ _ (by omega) (by omega) (by omega) (by omega) (by omega)
            replace cS := cS ((low' + 25) * 1024 + (K' - 1024)) (by omega) (by omega)
            have hV' : sg + ((low' + 25) * 1024 + (K' - 1024)) = V := by omega
            rw [hV'] at cS
            go_wp2_with (first | (go_at_call 85; (with_reducible refine (cT _).mono ?_); rintro e w3 ⟨rfl, hb3⟩; obtain ⟨hc3, hf3⟩ := bcell hb3; have k0 : w3.cell? ⟨w.heap.size, 0, none⟩ = some (.int .i64 10) := (by rw [hc3 _ _ xs]; exact x0); have k1 : w3.cell? ⟨w.heap.size, 1, none⟩ = some (.int .i64 15) := (by rw [hc3 _ _ xs]; exact x1)))
            have xs3 : w.heap.size < w3.heap.size := by have := hb3.size; omega
            go_region_held_law (fun w' => w'.cell? ⟨w.heap.size, 0, none⟩ = some (.int .i64 10) ∧ w'.cell? ⟨w.heap.size, 1, none⟩ = some (.int .i64 15)) (refine ⟨?_, ?_⟩ <;> go_simp) (first | (go_at_call 97; (with_reducible refine (cS _).mono ?_); rintro e w9 ⟨rfl, hb9⟩; obtain ⟨hc9, hf9⟩ := bcell hb9; have j0 : w9.cell? ⟨w.heap.size, 0, none⟩ = some (.int .i64 10) := (by rw [hc9 _ _ (by first | (simp; done) | (simp; omega) | omega)]; go_simp); have j1 : w9.cell? ⟨w.heap.size, 1, none⟩ = some (.int .i64 15) := (by rw [hc9 _ _ (by first | (simp; done) | (simp; omega) | omega)]; go_simp)))
            go_wp2
            go_ret
            exact ⟨rfl, below_step (below_step hb hb3) (below_step (below_drew1 (Below.refl _ _)) hb9)⟩
theorem top_i32 (w : World) : Calls Try.prog 85 #[.agg #[.int .i64 23, .int .i64 127]] w fun e w' => e = .returned (.int .u32 255) ∧ Below w.heap.size w w' := Pinfinite.impl_format_top.calls 23 127 255 w (by decide +kernel)
theorem inf_i32 (neg : Bool) (w : World) : Calls Try.prog 98 #[.agg #[.int .i64 23, .int .i64 127], .bool neg] w fun e w' => e = .returned (.int .u32 (sg32 neg + 2139095040)) ∧ Below w.heap.size w w' := Pinfinite.impl_format_infinite.calls 23 127 neg _ w (by cases neg <;> decide +kernel)
theorem signed_i32 (neg : Bool) (a : Int) (h0 : 0 ≤ a) (h1 : a < 2147483648) (w : World) : Calls Try.prog 97 #[.agg #[.int .i64 23, .int .i64 127], .bool neg, .int .u32 a] w fun e w' => e = .returned (.int .u32 (sg32 neg + a)) ∧ Below w.heap.size w w' := Pinfinite.impl_format_signed.calls 23 127 neg a _ w (by
  unfold Pinfinite.impl_format_signed.f sg32
  have hs : Pinfinite.impl_format_sign.f 23 127 = some 2147483648 := by decide +kernel
  cases neg with
  | false => rw [if_neg (by decide), if_neg (by decide)]; exact congrArg some (by omega)
  | true =>
    rw [if_pos rfl, hs, Option.bind_some, if_pos rfl, Pl.or_comm]
    exact congrArg some (or_add 31 (by decide) _ _ (by omega) (by omega) (by omega) (by omega) (by omega)))
def CellsI32 (w wx : World) : Prop := wx.cell? ⟨w.heap.size, 0, none⟩ = some (.int .i64 23) ∧ wx.cell? ⟨w.heap.size, 1, none⟩ = some (.int .i64 127) ∧ wx.frozen? ⟨w.heap.size, 0, none⟩ = false ∧ wx.frozen? ⟨w.heap.size, 1, none⟩ = false ∧ w.heap.size < wx.heap.size ∧ Below w.heap.size w wx
set_option maxRecDepth 100000 in
set_option maxHeartbeats 8000000 in
theorem round_i32 (neg more : Bool) (m : Nat) (e V : Int) (h0 : m ≠ 0) (h : m < 2 ^ 63 + 1) (he : -1000 ≤ e) (he1 : e ≤ 1000) (hm : 62 < rLow 23 (-149) (Lib.bitLen m) e - e → m < 2 ^ 60) (hV : rTail (sg32 neg) 8388608 (-149) 255 (rK m (rLow 23 (-149) (Lib.bitLen m) e - e) more) (rLow 23 (-149) (Lib.bitLen m) e) = V) (w : World) : Calls Try.prog 77 #[.agg #[.int .i64 23, .int .i64 127], .bool neg, .int .u64 m, .int .i64 e, .bool more] w fun en w' => en = .returned (.int .u32 V) ∧ Below w.heap.size w w' := by
  obtain ⟨l0, l1, l2⟩ := len_bounds m h0 (by omega)
  have l3 : Lib.bitLen m ≤ 64 := Lib.bitLen_le m 64 (by omega) (by omega)
  have cl := fun w => len_i m (by omega) w
  have z : ((m : Int) == 0) = false := beq_eq_false_iff_ne.2 (by omega)
  generalize Lib.bitLen m = L at *
  go_enter Try.func77, Try.ntmps77
  go_upto_region 3 with fail
  go_cut [11] (fun s11 wx => s11 = .int .i64 (rLow 23 (-149) L e) ∧ CellsI32 w wx)
  case first =>
    have w1 : IntKind.i64.wrap ((L : Int) - 1) = (L : Int) - 1 := by rw [IntKind.wrap_i64]; omega
    have w2 : IntKind.i64.wrap ((L : Int) - 1 + e) = (L : Int) - 1 + e := by rw [IntKind.wrap_i64]; omega
    have w3 : IntKind.i64.wrap ((L : Int) - 1 + e - 23) = (L : Int) - 1 + e - 23 := by rw [IntKind.wrap_i64]; omega
    have w4 : IntKind.i64.wrap (1 - 127) = 1 - 127 := by decide
    have w5 : IntKind.i64.wrap (1 - 127 - 23) = -149 := by decide
    have hmax : max ((L : Int) - 1 + e - 23) (IntKind.i64.wrap (IntKind.i64.wrap (1 - 127) - 23)) = rLow 23 (-149) L e := by
      rw [show IntKind.i64.wrap (IntKind.i64.wrap (1 - 127) - 23) = -149 by decide]
      unfold rLow
      split <;> omega
    go_region_held_law (fun w' => w'.cell? ⟨w.heap.size, 0, none⟩ = some (.int .i64 23) ∧ w'.cell? ⟨w.heap.size, 1, none⟩ = some (.int .i64 127)) (refine ⟨?_, ?_⟩ <;> go_simp) (first | (go_at_call 76; (with_reducible refine (cl _).mono ?_); rintro e w9 ⟨rfl, rfl⟩))
    go_wp2_with fail
    go_meet
    case rel => exact ⟨congrArg (Value.int .i64) hmax, by go_simp, by go_simp, by go_simp, by go_simp, by simp, by repeat (first | (with_reducible exact Below.refl _ _) | (with_reducible refine below_alloc ?_ _) | (with_reducible refine below_drew1 ?_))⟩
  case rest =>
    obtain ⟨rfl, x0, x1, y0, y1, xs, hb⟩ := hcut
    clear cl
    have hl : -149 ≤ rLow 23 (-149) L e ∧ e + L - 24 ≤ rLow 23 (-149) L e ∧ (rLow 23 (-149) L e = -149 ∨ rLow 23 (-149) L e = e + L - 24) := by unfold rLow; split <;> omega
    generalize rLow 23 (-149) L e = low at *
    obtain ⟨hl1, hl2, hl3⟩ := hl
    have hsh : IntKind.i64.wrap (low - e) = low - e := by rw [IntKind.wrap_i64]; omega
    go_upto_if 42 with fail
    go_cut [12, 14, 15] (fun s12 s14 s15 wx => s12 = .int .u64 (rK m (low - e) more) ∧ CellsI32 w wx)
    case first =>
      by_cases c0 : 62 < low - e
      · have d0 : decide (62 < low - e) = true := decide_eq_true c0
        have d4 : rK m (low - e) more = 0 := by
          have hm2 := hm c0
          unfold rK
          rw [if_neg (by omega)]
          by_cases c9 : low - e < 64
          · rw [if_pos c9, show (low - e).toNat = 63 by omega]
            unfold rUp
            have g1 : (m : Int) / 2 ^ 63 = 0 := by omega
            have g2 : (m : Int) % 2 ^ 63 = m := by omega
            rw [g1, g2, decide_eq_false (by omega), decide_eq_false (by omega)]
            rfl
          · rw [if_neg c9]
        clear hm
        go_wp2_with fail
        go_meet
        case rel => exact ⟨by rw [d4], x0, x1, y0, y1, xs, hb⟩
      · have d0 : decide (62 < low - e) = false := decide_eq_false c0
        clear hm
        by_cases c1 : low - e ≤ 0
        · obtain ⟨t, ht⟩ : ∃ t : Nat, e - low = t := ⟨(e - low).toNat, by omega⟩
          have d1 : decide (0 < low - e) = false := decide_eq_false (by omega)
          have d2 : (-(low - e)).toNat = t := by omega
          have d7 : IntKind.i64.wrap (-(low - e)) = -(low - e) := by rw [IntKind.wrap_i64]; omega
          have d8 : 0 ≤ -(low - e) := by omega
          have d3 : m * 2 ^ t < 2 ^ 64 := by
            have h1 : m * 2 ^ t < 2 ^ L * 2 ^ t := Nat.mul_lt_mul_of_pos_right l2 (Nat.two_pow_pos _)
            rw [← Nat.pow_add] at h1
            exact Nat.lt_of_lt_of_le h1 (Nat.pow_le_pow_right (by decide) (by omega))
          have d4 : rK m (low - e) more = (m : Int) * 2 ^ t := by unfold rK; rw [if_pos c1, d2]
          have d5 : IntKind.u64.wrap ((m : Int) * 2 ^ t) = (m : Int) * 2 ^ t := by
            rw [IntKind.wrap_u64, ← pow_nat, ← Int.natCast_mul]; omega
          clear d3 ht
          go_wp2_with fail
          go_meet
          case rel => exact ⟨by rw [d4], x0, x1, y0, y1, xs, hb⟩
        · obtain ⟨t, ht⟩ : ∃ t : Nat, low - e = t := ⟨(low - e).toNat, by omega⟩
          have d1 : decide (0 < low - e) = true := decide_eq_true (by omega)
          have d3 : (low - e).toNat = t := by omega
          have d6 : (low - e - 1).toNat = t - 1 := by omega
          have d7 : IntKind.i64.wrap (low - e - 1) = low - e - 1 := by rw [IntKind.wrap_i64]; omega
          have d8 : 0 ≤ low - e - 1 := by omega
          have d9 : 0 ≤ low - e := by omega
          have t1 : 1 ≤ t := by omega
          have t2 : t ≤ 62 := by omega
          have e2 := wrap_pow (t - 1) (by omega)
          have e3 : bits .and .u64 (m : Int) ((2 : Int) ^ t - 1) = (m : Int) % 2 ^ t := Pl.and_mask .u64 t (show t < 64 by omega) m
          have hH2 : (2 : Int) * 2 ^ (t - 1) = 2 ^ t := by
            rw [← Int.pow_succ', show t - 1 + 1 = t by omega]
          rw [← hH2] at e3
          have e7 : (2 : Int) ^ (t - 1) ≤ 2 ^ 62 := by
            rw [← pow_nat, ← pow_nat]
            exact Int.ofNat_le.2 (Nat.pow_le_pow_right (by decide) (by omega))
          have e8 : (0 : Int) < 2 ^ (t - 1) := Int.pow_pos (by decide)
          have d4 : rK m (low - e) more = (m : Int) / 2 ^ t + (if rUp m t more then 1 else 0) := by unfold rK; rw [if_neg c1, if_pos (by omega), d3]
          have q1 : (m : Int) / 2 ^ t < 2 ^ 63 := by
            have : m / 2 ^ t < 2 ^ 63 := by
              have h1 : m / 2 ^ t ≤ m / 2 ^ 1 := Nat.div_le_div_left (Nat.pow_le_pow_right (by decide) t1) (by decide)
              omega
            rw [← pow_nat, ← Int.natCast_ediv]; omega
          have q0 : 0 ≤ (m : Int) / 2 ^ t := Int.ediv_nonneg (by omega) (Int.pow_nonneg (by decide))
          unfold rUp at d4
          rw [← hH2] at d4 q1 q0
          generalize hR : (m : Int) % (2 * 2 ^ (t - 1)) = R at *
          generalize hQ : (m : Int) / (2 * 2 ^ (t - 1)) = Q at *
          rw [hH2] at hR hQ
          have hQ' : (m : Int) / 2 ^ t = Q := hQ
          clear hR hQ hH2
          generalize hH : (2 : Int) ^ (t - 1) = H at *
          clear ht
          have e4 : bits .and .u64 Q 1 = Q % 2 := and_one .u64 (by decide) Q
          have e5 : IntKind.u64.wrap (Q + 1) = Q + 1 := by rw [IntKind.wrap_u64]; omega
          have e9 : IntKind.u64.wrap (2 * H) = 2 * H := by rw [IntKind.wrap_u64]; omega
          have e10 : IntKind.u64.wrap (2 * H - 1) = 2 * H - 1 := by rw [IntKind.wrap_u64]; omega
          by_cases u1 : H < R
          · have b1 : decide (H < R) = true := decide_eq_true u1
            go_wp2_with fail
            go_meet
            case rel => exact ⟨by rw [d4, b1]; rfl, x0, x1, y0, y1, xs, hb⟩
          · have b1 : decide (H < R) = false := decide_eq_false u1
            by_cases u2 : R = H
            · have b2 : (R == H) = true := beq_iff_eq.2 u2
              have b3 : decide (R = H) = true := decide_eq_true u2
              cases more with
              | true =>
                go_wp2_with fail
                go_meet
                case rel => exact ⟨by rw [d4, b1, b3]; rfl, x0, x1, y0, y1, xs, hb⟩
              | false =>
                by_cases u3 : Q % 2 = 1
                · have b4 : (Q % 2 == 1) = true := beq_iff_eq.2 u3
                  have b5 : decide (Q % 2 = 1) = true := decide_eq_true u3
                  go_wp2_with fail
                  go_meet
                  case rel => exact ⟨by rw [d4, b1, b3, b5]; rfl, x0, x1, y0, y1, xs, hb⟩
                · have b4 : (Q % 2 == 1) = false := beq_eq_false_iff_ne.2 u3
                  have b5 : decide (Q % 2 = 1) = false := decide_eq_false u3
                  go_wp2_with fail
                  go_meet
                  case rel => exact ⟨by rw [d4, b1, b3, b5]; simp, x0, x1, y0, y1, xs, hb⟩
            · have b2 : (R == H) = false := beq_eq_false_iff_ne.2 u2
              have b3 : decide (R = H) = false := decide_eq_false u2
              go_wp2_with fail
              go_meet
              case rel => exact ⟨by rw [d4, b1, b3]; simp, x0, x1, y0, y1, xs, hb⟩
    case rest =>
      have hK := rK_le 24 (by decide) m L l2 (low - e) (by omega) more
      generalize rK m (low - e) more = K at *
      clear x0 x1 y0 y1 xs hb hm
      obtain ⟨rfl, x0, x1, y0, y1, xs, hb⟩ := hcut
      go_upto_if 82 with fail
      go_cut [11, 12] (fun s11 s12 wx => ∃ K' low' : Int, s12 = .int .u64 K' ∧ s11 = .int .i64 low' ∧ rTail (sg32 neg) 8388608 (-149) 255 K low = rOut (sg32 neg) 8388608 (-149) 255 K' low' ∧ 0 ≤ K' ∧ K' < 16777216 ∧ -149 ≤ low' ∧ low' ≤ 2000 ∧ CellsI32 w wx)
      case first =>
        by_cases c : K = 16777216
        · subst c
          have b1 : IntKind.i64.wrap (low + 1) = low + 1 := by rw [IntKind.wrap_i64]; omega
          go_wp2_with fail
          go_meet
          case rel => exact ⟨8388608, low + 1, rfl, rfl, rfl, by omega, by omega, by omega, by omega, x0, x1, y0, y1, xs, hb⟩
        · have b1 : (K == 16777216) = false := beq_eq_false_iff_ne.2 c
          go_wp2_with fail
          go_meet
          case rel => exact ⟨K, low, rfl, rfl, by unfold rTail; rw [if_neg (by omega)], by omega, by omega, by omega, by omega, x0, x1, y0, y1, xs, hb⟩
      case rest =>
        clear hK hl1 hl2 hl3 hsh x0 x1 y0 y1 xs hb
        obtain ⟨K', low', rfl, rfl, hW, hK0, hK1, hl0, hl1, x0, x1, y0, y1, xs, hb⟩ := hcut
        rw [hW] at hV
        clear hW
        unfold rOut at hV
        have cS := fun a h0 h1 w => signed_i32 neg a h0 h1 w
        have cI := fun w => inf_i32 neg w
        have cT := fun w => top_i32 w
        generalize sg32 neg = sg at *
        have q0 : IntKind.u32.wrap K' = K' := by rw [IntKind.wrap_u32]; omega
        by_cases t1 : K' < 8388608
        · have b1 : decide (K' < 8388608) = true := decide_eq_true t1
          rw [if_pos t1] at hV
          replace cS := cS K' (by omega) (by omega)
          rw [hV] at cS
          go_wp2_with (first | (go_at_call 97; (with_reducible refine (cS _).mono ?_); rintro e w3 ⟨rfl, hb3⟩))
          go_ret
          exact ⟨rfl, below_step hb hb3⟩
        · have b1 : decide (K' < 8388608) = false := decide_eq_false t1
          rw [if_neg t1] at hV
          have q1 : IntKind.i64.wrap (low' + 127) = low' + 127 := by rw [IntKind.wrap_i64]; omega
          have q2 : IntKind.i64.wrap (low' + 127 + 23) = low' + 150 := by rw [IntKind.wrap_i64]; omega
          have q5 : low' + 127 + 23 = low' + 150 := by omega
          by_cases t2 : 255 ≤ low' + 150
          · have b2 : decide (255 ≤ low' + 150) = true := decide_eq_true t2
            rw [if_pos (by omega)] at hV
            have hV' : sg + 2139095040 = V := by omega
            rw [hV'] at cI
            go_wp2_with (first | (go_at_call 85; (with_reducible refine (cT _).mono ?_); rintro e w3 ⟨rfl, hb3⟩; obtain ⟨hc3, hf3⟩ := bcell hb3; have k0 : w3.cell? ⟨w.heap.size, 0, none⟩ = some (.int .i64 23) := (by rw [hc3 _ _ xs]; exact x0); have k1 : w3.cell? ⟨w.heap.size, 1, none⟩ = some (.int .i64 127) := (by rw [hc3 _ _ xs]; exact x1)) | (go_at_call 98; (with_reducible refine (cI _).mono ?_); rintro e w4 ⟨rfl, hb4⟩))
            go_ret
            exact ⟨rfl, below_step (below_step hb hb3) hb4⟩
          · have b2 : decide (255 ≤ low' + 150) = false := decide_eq_false t2
            rw [if_neg (by omega)] at hV
            have q3 : IntKind.u32.wrap (low' + 150) = low' + 150 := by rw [IntKind.wrap_u32]; omega
            have q4 : IntKind.u32.wrap ((low' + 150) * 8388608) = (low' + 150) * 8388608 := by rw [IntKind.wrap_u32]; omega
            have q6 : IntKind.u64.wrap (K' - 8388608) = K' - 8388608 := by rw [IntKind.wrap_u64]; omega
            have q7 : IntKind.u32.wrap (K' - 8388608) = K' - 8388608 := by rw [IntKind.wrap_u32]; omega
            have q8 : IntKind.u64.wrap 8388608 = 8388608 := by decide
            have e1 : bits .or .u32 ((low' + 150) * 8388608) (K' - 8388608) = (low' + 150) * 8388608 + (K' - 8388608) := or_add 23 (by decide) _ _ (by omega) (by omega) (by omega) (by omega) (by omega)
            replace cS := cS ((low' + 150) * 8388608 + (K' - 8388608)) (by omega) (by omega)
            have hV' : sg + ((low' + 150) * 8388608 + (K' - 8388608)) = V := by omega
            rw [hV'] at cS
            go_wp2_with (first | (go_at_call 85; (with_reducible refine (cT _).mono ?_); rintro e w3 ⟨rfl, hb3⟩; obtain ⟨hc3, hf3⟩ := bcell hb3; have k0 : w3.cell? ⟨w.heap.size, 0, none⟩ = some (.int .i64 23) := (by rw [hc3 _ _ xs]; exact x0); have k1 : w3.cell? ⟨w.heap.size, 1, none⟩ = some (.int .i64 127) := (by rw [hc3 _ _ xs]; exact x1)))
            have xs3 : w.heap.size < w3.heap.size := by have := hb3.size; omega
            go_region_held_law (fun w' => w'.cell? ⟨w.heap.size, 0, none⟩ = some (.int .i64 23) ∧ w'.cell? ⟨w.heap.size, 1, none⟩ = some (.int .i64 127)) (refine ⟨?_, ?_⟩ <;> go_simp) (first | (go_at_call 97; (with_reducible refine (cS _).mono ?_); rintro e w9 ⟨rfl, hb9⟩; obtain ⟨hc9, hf9⟩ := bcell hb9; have j0 : w9.cell? ⟨w.heap.size, 0, none⟩ = some (.int .i64 23) := (by rw [hc9 _ _ (by first | (simp; done) | (simp; omega) | omega)]; go_simp); have j1 : w9.cell? ⟨w.heap.size, 1, none⟩ = some (.int .i64 127) := (by rw [hc9 _ _ (by first | (simp; done) | (simp; omega) | omega)]; go_simp)))
            go_wp2
            go_ret
            exact ⟨rfl, below_step (below_step hb hb3) (below_step (below_drew1 (Below.refl _ _)) hb9)⟩
end Go.Proofs.Ytfmmmfddpfddoaa.OwnRndI
