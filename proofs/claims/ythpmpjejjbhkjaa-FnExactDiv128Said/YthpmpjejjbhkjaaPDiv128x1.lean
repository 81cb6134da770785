-- PRINTED BY print.sh 35421559b90ae4d0a3588c463048766b98c2df88dd9212a6774a882060cdf62d: not written by this session
import Derived.Test.YthpmpjejjbhkjaaPDiv128x0
namespace Go.Proofs.Ythpmpjejjbhkjaa.PDiv128
open Go.RowKit Go.Proofs.YthpmpjejjbhkjaaW.PrintWords Go.Proofs.YthpmpjejjbhkjaaW.PrintLast Go.Proofs.YthpmpjejjbhkjaaW.PrintMore
attribute [local go_sem] max2_int min2_int max_two min_two max_three min_three max_four min_four   -- for this text's walks alone
set_option linter.unusedVariables false
set_option linter.unusedSimpArgs false

/-! ### spec_Div128: function 36 -/
def spec_Div128.l0 : Nat → Int → Int → Int → Int → Int → Option (Int × Int × Bool)
  | 0, _, _, _, _, _ => none
  | k + 1, x0, x1, x2, x9, x10 => if x10 ≥ 0 then (if 0 ≤ (IntKind.u64.wrap (x10)) then (if (x0 / 9223372036854775808) = 1 then (spec_Div128.l0 k (IntKind.u64.wrap ((Go.bits .or .u64 (IntKind.u64.wrap (x0 * 2)) (Go.bits .and .u64 (shr .u64 x1 (IntKind.u64.wrap (x10))) 1)) - x2)) x1 x2 (Go.bits .or .u64 (IntKind.u64.wrap (x9 * 2)) 1) (wrap64 (x10 - 1))) else (if (Go.bits .or .u64 (IntKind.u64.wrap (x0 * 2)) (Go.bits .and .u64 (shr .u64 x1 (IntKind.u64.wrap (x10))) 1)) ≥ x2 then (spec_Div128.l0 k (IntKind.u64.wrap ((Go.bits .or .u64 (IntKind.u64.wrap (x0 * 2)) (Go.bits .and .u64 (shr .u64 x1 (IntKind.u64.wrap (x10))) 1)) - x2)) x1 x2 (Go.bits .or .u64 (IntKind.u64.wrap (x9 * 2)) 1) (wrap64 (x10 - 1))) else (spec_Div128.l0 k (Go.bits .or .u64 (IntKind.u64.wrap (x0 * 2)) (Go.bits .and .u64 (shr .u64 x1 (IntKind.u64.wrap (x10))) 1)) x1 x2 (IntKind.u64.wrap (x9 * 2)) (wrap64 (x10 - 1))))) else (none)) else (some (x9, x0, true))
def spec_Div128.f (k : Nat) (a0 : Int) (a1 : Int) (a2 : Int) : Option (Int × Int × Bool) := if a2 ≤ a0 then (some (0, 0, false)) else (spec_Div128.l0 k a0 a1 a2 0 63)
theorem spec_Div128.mono_l : ∀ k, (∀ y0 y1 y2 y3 y4, LeO (spec_Div128.l0 k y0 y1 y2 y3 y4) (spec_Div128.l0 (k + 1) y0 y1 y2 y3 y4))
  | 0 => fun _ _ _ _ _ r h => by simp [spec_Div128.l0] at h
  | k + 1 => by
    have ih0 := spec_Div128.mono_l k
    · intro y0 y1 y2 y3 y4
      unfold spec_Div128.l0
      repeat' first
      | (with_reducible exact ih0 _ _ _ _ _)
      | (with_reducible exact LeO.refl _)
      | (with_reducible exact LeO.none _)
      | (with_reducible refine LeO.ite ?_ ?_)
      | (with_reducible refine LeO.bind ?_ (fun _ => ?_))
      | exact ih0 _ _ _ _ _
      | exact LeO.none _
      | refine LeO.ite ?_ ?_
      | refine LeO.bind ?_ (fun _ => ?_)
theorem spec_Div128.mono : ∀ a0 a1 a2 k, LeO (spec_Div128.f k a0 a1 a2) (spec_Div128.f (k + 1) a0 a1 a2) := by
  intro a0 a1 a2 k
  have ih0 := spec_Div128.mono_l k
  unfold spec_Div128.f
  repeat' first
      | (with_reducible exact ih0 _ _ _ _ _)
      | (with_reducible exact LeO.refl _)
      | (with_reducible exact LeO.none _)
      | (with_reducible refine LeO.ite ?_ ?_)
      | (with_reducible refine LeO.bind ?_ (fun _ => ?_))
      | exact ih0 _ _ _ _ _
      | exact LeO.none _
      | refine LeO.ite ?_ ?_
      | refine LeO.bind ?_ (fun _ => ?_)
set_option maxHeartbeats 8000000 in
set_option maxRecDepth 100000 in
theorem spec_Div128.calls (k : Nat) (a0 : Int) (a1 : Int) (a2 : Int) (r1 : Int) (r2 : Int) (r3 : Bool) (w : World) (h : spec_Div128.f k a0 a1 a2 = some (r1, r2, r3)) :
    Calls Try.prog 36 #[.int .u64 a0, .int .u64 a1, .int .u64 a2] w fun e w' => e = .returned (.tuple #[.int .u64 r1, .int .u64 r2, .bool r3]) ∧ Drawn0 w w' := by
  have H : (if a2 ≤ a0 then (some (0, 0, false)) else (spec_Div128.l0 k a0 a1 a2 0 63)) = some (r1, r2, r3) := h
  clear h
  by_cases c4 : a2 ≤ a0
  · rw [if_pos c4] at H
    have c4b0 : decide (a2 ≤ a0) = true := decide_eq_true c4
    clear c4
    simp only [Option.some.injEq, Prod.mk.injEq] at H
    obtain ⟨rfl, rfl, rfl⟩ := H
    go_enter Try.func36, Try.ntmps36
    go_wp2
    go_ret3
    exact ⟨by first | rfl | (simp; done) | (simp [*]; done), by repeat (first | exact Drawn0.refl _ | apply Drawn0.step)⟩
  · rw [if_neg c4] at H
    have c4b0 : decide (a2 ≤ a0) = false := decide_eq_false c4
    clear c4
    have H' := Aside0.mk H
    clear H
    go_enter Try.func36, Try.ntmps36
    go_wp2
    go_loopg [0, 9, 10] k (fun kq v0 v9 v10 w' => ∃ (x0_1 : Int) (x9_1 : Int) (x10_1 : Int), v0 = .int .u64 x0_1 ∧ v9 = .int .u64 x9_1 ∧ v10 = .int .i64 x10_1 ∧ Aside0 (spec_Div128.l0 kq x0_1 a1 a2 x9_1 x10_1 = some (r1, r2, r3)) ∧ Aside0 (kq ≤ k) ∧ Drawn0 w w')
    case atStart => exact ⟨(a0), (0), (63), (by first | rfl | (simp; done) | (simp [*]; done)), (by first | rfl | (simp; done) | (simp [*]; done)), (by first | rfl | (simp; done) | (simp [*]; done)), H', ⟨Nat.le_refl _⟩, by repeat (first | exact Drawn0.refl _ | apply Drawn0.step)⟩
    case round =>
      clear H'
      try clear p2
      try clear c3
      try clear c4
      try clear c4b0
      obtain ⟨x0_1, x9_1, x10_1, rfl, rfl, rfl, HA, HK1, ⟨m1, rfl⟩⟩ := hrel
      cases gk with
      | zero => exact absurd HA.out (by simp [spec_Div128.l0])
      | succ k1 =>
        have H := HA.out
        clear HA
        simp only [spec_Div128.l0] at H
        by_cases c5 : x10_1 ≥ 0
        · rw [if_pos c5] at H
          have c5b0 : decide (0 ≤ x10_1) = true := decide_eq_true c5
          clear c5
          obtain ⟨ji6, hji6⟩ : ∃ j_ : Int, (IntKind.u64.wrap (x10_1)) = j_ := ⟨_, rfl⟩
          replace H : (if 0 ≤ (ji6) then (if (x0_1 / 9223372036854775808) = 1 then (spec_Div128.l0 k1 (IntKind.u64.wrap ((Go.bits .or .u64 (IntKind.u64.wrap (x0_1 * 2)) (Go.bits .and .u64 (shr .u64 a1 (ji6)) 1)) - a2)) a1 a2 (Go.bits .or .u64 (IntKind.u64.wrap (x9_1 * 2)) 1) (wrap64 (x10_1 - 1))) else (if (Go.bits .or .u64 (IntKind.u64.wrap (x0_1 * 2)) (Go.bits .and .u64 (shr .u64 a1 (ji6)) 1)) ≥ a2 then (spec_Div128.l0 k1 (IntKind.u64.wrap ((Go.bits .or .u64 (IntKind.u64.wrap (x0_1 * 2)) (Go.bits .and .u64 (shr .u64 a1 (ji6)) 1)) - a2)) a1 a2 (Go.bits .or .u64 (IntKind.u64.wrap (x9_1 * 2)) 1) (wrap64 (x10_1 - 1))) else (spec_Div128.l0 k1 (Go.bits .or .u64 (IntKind.u64.wrap (x0_1 * 2)) (Go.bits .and .u64 (shr .u64 a1 (ji6)) 1)) a1 a2 (IntKind.u64.wrap (x9_1 * 2)) (wrap64 (x10_1 - 1))))) else (none)) = some (r1, r2, r3) := by first | (rw [hji6] at H; exact H) | (simp only [hji6] at H ⊢; exact H)
          by_cases c7 : 0 ≤ (ji6)
          · rw [if_pos c7] at H
            have c7b0 := eq_true c7
            have c7b1 : decide (0 ≤ (ji6)) = true := decide_eq_true c7
            clear c7
            obtain ⟨ji8, hji8⟩ : ∃ j_ : Int, (shr .u64 a1 (ji6)) = j_ := ⟨_, rfl⟩
            replace H : (if (x0_1 / 9223372036854775808) = 1 then (spec_Div128.l0 k1 (IntKind.u64.wrap ((Go.bits .or .u64 (IntKind.u64.wrap (x0_1 * 2)) (Go.bits .and .u64 (ji8) 1)) - a2)) a1 a2 (Go.bits .or .u64 (IntKind.u64.wrap (x9_1 * 2)) 1) (wrap64 (x10_1 - 1))) else (if (Go.bits .or .u64 (IntKind.u64.wrap (x0_1 * 2)) (Go.bits .and .u64 (ji8) 1)) ≥ a2 then (spec_Div128.l0 k1 (IntKind.u64.wrap ((Go.bits .or .u64 (IntKind.u64.wrap (x0_1 * 2)) (Go.bits .and .u64 (ji8) 1)) - a2)) a1 a2 (Go.bits .or .u64 (IntKind.u64.wrap (x9_1 * 2)) 1) (wrap64 (x10_1 - 1))) else (spec_Div128.l0 k1 (Go.bits .or .u64 (IntKind.u64.wrap (x0_1 * 2)) (Go.bits .and .u64 (ji8) 1)) a1 a2 (IntKind.u64.wrap (x9_1 * 2)) (wrap64 (x10_1 - 1))))) = some (r1, r2, r3) := by first | (rw [hji8] at H; exact H) | (simp only [hji8] at H ⊢; exact H)
            have hji8_ : (a1 / 2 ^ min (ji6).toNat 64) = ji8 := hji8
            have hji8z : (ji6) ≤ 64 → (a1 / 2 ^ (ji6).toNat) = ji8 := shr_small hji8
            by_cases c9 : (x0_1 / 9223372036854775808) = 1
            · rw [if_pos c9] at H
              have c9b0 : ((x0_1 / 9223372036854775808) == 1) = true := beq_iff_eq.mpr c9
              have c9b1 : ((x0_1 / 9223372036854775808) != 1) = false := bne_eq_false_iff_eq.mpr c9
              clear c9
              have H' := Aside0.mk H
              clear H
              go_wp2
              go_roundg k1
              case measure => have := HK1.out; omega
              case rel => exact ⟨(IntKind.u64.wrap ((Go.bits .or .u64 (IntKind.u64.wrap (x0_1 * 2)) (Go.bits .and .u64 (ji8) 1)) - a2)), (Go.bits .or .u64 (IntKind.u64.wrap (x9_1 * 2)) 1), (wrap64 (x10_1 - 1)), (by first | rfl | (simp; done) | (simp only [← hji8] <;> (first | rfl | simp)) | (simp [*]; done)), (by first | rfl | (simp; done) | (simp [*]; done)), (by first | rfl | (simp; done) | (simp [*]; done)), H', ⟨by have := HK1.out; omega⟩, by repeat (first | exact Drawn0.refl _ | apply Drawn0.step)⟩
            · rw [if_neg c9] at H
              have c9b0 : ((x0_1 / 9223372036854775808) == 1) = false := beq_eq_false_iff_ne.mpr c9
              have c9b1 : ((x0_1 / 9223372036854775808) != 1) = true := bne_iff_ne.mpr c9
              by_cases c10 : (Go.bits .or .u64 (IntKind.u64.wrap (x0_1 * 2)) (Go.bits .and .u64 (ji8) 1)) ≥ a2
              · rw [if_pos c10] at H
                have c10b0 : decide (a2 ≤ (Go.bits .or .u64 (IntKind.u64.wrap (x0_1 * 2)) (Go.bits .and .u64 (ji8) 1))) = true := decide_eq_true c10
                clear c10
                have H' := Aside0.mk H
                clear H
                go_wp2
                go_roundg k1
                case measure => have := HK1.out; omega
                case rel => exact ⟨(IntKind.u64.wrap ((Go.bits .or .u64 (IntKind.u64.wrap (x0_1 * 2)) (Go.bits .and .u64 (ji8) 1)) - a2)), (Go.bits .or .u64 (IntKind.u64.wrap (x9_1 * 2)) 1), (wrap64 (x10_1 - 1)), (by first | rfl | (simp; done) | (simp only [← hji8] <;> (first | rfl | simp)) | (simp [*]; done)), (by first | rfl | (simp; done) | (simp [*]; done)), (by first | rfl | (simp; done) | (simp [*]; done)), H', ⟨by have := HK1.out; omega⟩, by repeat (first | exact Drawn0.refl _ | apply Drawn0.step)⟩
              · rw [if_neg c10] at H
                have c10b0 : decide (a2 ≤ (Go.bits .or .u64 (IntKind.u64.wrap (x0_1 * 2)) (Go.bits .and .u64 (ji8) 1))) = false := decide_eq_false c10
                clear c10
                have H' := Aside0.mk H
                clear H
                go_wp2
                go_roundg k1
                case measure => have := HK1.out; omega
                case rel => exact ⟨(Go.bits .or .u64 (IntKind.u64.wrap (x0_1 * 2)) (Go.bits .and .u64 (ji8) 1)), (IntKind.u64.wrap (x9_1 * 2)), (wrap64 (x10_1 - 1)), (by first | rfl | (simp; done) | (simp only [← hji8] <;> (first | rfl | simp)) | (simp [*]; done)), (by first | rfl | (simp; done) | (simp [*]; done)), (by first | rfl | (simp; done) | (simp [*]; done)), H', ⟨by have := HK1.out; omega⟩, by repeat (first | exact Drawn0.refl _ | apply Drawn0.step)⟩
          · rw [if_neg c7] at H
            exact absurd H (by simp)
        · rw [if_neg c5] at H
          have c5b0 : decide (0 ≤ x10_1) = false := decide_eq_false c5
          clear c5
          simp only [Option.some.injEq, Prod.mk.injEq] at H
          obtain ⟨rfl, rfl, rfl⟩ := H
          go_wp2
          go_ret3
          exact ⟨by first | rfl | (simp; done) | (simp [*]; done), by repeat (first | exact Drawn0.refl _ | apply Drawn0.step)⟩

end Go.Proofs.Ythpmpjejjbhkjaa.PDiv128
