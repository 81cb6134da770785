-- PRINTED BY print.sh 35421559b90ae4d0a3588c463048766b98c2df88dd9212a6774a882060cdf62d: not written by this session
import Derived.Test.YtfhnffondamhdaaPgoodCodex0
namespace Go.Proofs.Ytfhnffondamhdaa.PgoodCode
open Go.RowKit Go.Proofs.YtfhnffondamhdaaW.PrintWords Go.Proofs.YtfhnffondamhdaaW.PrintLast Go.Proofs.YtfhnffondamhdaaW.PrintMore
attribute [local go_sem] max2_int min2_int max_two min_two max_three min_three max_four min_four   -- for this text's walks alone
set_option linter.unusedVariables false
set_option linter.unusedSimpArgs false

/-! ### impl_formOf: function 104 -/
mutual
def impl_formOf.j0 : Nat → Int → Int → Bool → Option (Int)
  | 0, _, _, _ => none
  | k + 1, x0, x3, x4 => if x4 = true then (some 2) else (if x3 = 12 then (impl_formOf.j1 k x0 x3 (x3 == 12)) else (if x3 = 13 then (impl_formOf.j1 k x0 x3 (x3 == 13)) else (if x3 = 16 then (impl_formOf.j1 k x0 x3 (x3 == 16)) else (if x3 = 32 then (impl_formOf.j1 k x0 x3 (x3 == 32)) else (if x3 = 33 then (impl_formOf.j1 k x0 x3 (x3 == 33)) else (if x3 = 34 then (impl_formOf.j1 k x0 x3 (x3 == 34)) else (if x3 = 35 then (impl_formOf.j1 k x0 x3 (x3 == 35)) else (impl_formOf.j1 k x0 x3 (x3 == 36)))))))))
def impl_formOf.j1 : Nat → Int → Int → Bool → Option (Int)
  | 0, _, _, _ => none
  | k + 1, x0, x3, x8 => if x8 = true then (some 3) else (if x3 = 40 then (impl_formOf.j2 k x0 x3 (x3 == 40)) else (if x3 = 41 then (impl_formOf.j2 k x0 x3 (x3 == 41)) else (if x3 = 54 then (impl_formOf.j2 k x0 x3 (x3 == 54)) else (impl_formOf.j2 k x0 x3 (x3 == 55)))))
def impl_formOf.j2 : Nat → Int → Int → Bool → Option (Int)
  | 0, _, _, _ => none
  | k + 1, x0, x3, x17 => if x17 = true then (some 4) else (if x3 = 65 then (some 5) else (if x3 = 66 then (some 6) else (if x3 = 67 then (some 7) else (if x3 = 0 then (impl_formOf.j3 k x0 (x3 == 0)) else (if x3 = 1 then (impl_formOf.j3 k x0 (x3 == 1)) else (if x3 = 5 then (impl_formOf.j3 k x0 (x3 == 5)) else (if x3 = 11 then (impl_formOf.j3 k x0 (x3 == 11)) else (if x3 = 15 then (impl_formOf.j3 k x0 (x3 == 15)) else (if x3 = 26 then (impl_formOf.j3 k x0 (x3 == 26)) else (if x3 = 27 then (impl_formOf.j3 k x0 (x3 == 27)) else (if x3 = 63 then (impl_formOf.j3 k x0 (x3 == 63)) else (if x3 = 64 then (impl_formOf.j3 k x0 (x3 == 64)) else (if x3 = 176 then (impl_formOf.j3 k x0 (x3 == 176)) else (if x3 = 177 then (impl_formOf.j3 k x0 (x3 == 177)) else (if x3 = 178 then (impl_formOf.j3 k x0 (x3 == 178)) else (if x3 = 179 then (impl_formOf.j3 k x0 (x3 == 179)) else (impl_formOf.j3 k x0 (x3 == 180))))))))))))))))))
def impl_formOf.j3 : Nat → Int → Bool → Option (Int)
  | 0, _, _ => none
  | k + 1, x0, x28 => if x28 = true then (some 1) else (if x0 > 96 then (if x0 ≤ 123 then (some 1) else (if x0 > 128 then (if x0 ≤ 155 then (some 1) else (if x0 > 160 then (if x0 ≤ 169 then (some 1) else (some 0)) else (some 0))) else (if x0 > 160 then (if x0 ≤ 169 then (some 1) else (some 0)) else (some 0)))) else (if x0 > 128 then (if x0 ≤ 155 then (some 1) else (if x0 > 160 then (if x0 ≤ 169 then (some 1) else (some 0)) else (some 0))) else (if x0 > 160 then (if x0 ≤ 169 then (some 1) else (some 0)) else (some 0))))
end
def impl_formOf.f (k : Nat) (a0 : Int) : Option (Int) := if a0 = 2 then (impl_formOf.j0 k a0 a0 (a0 == 2)) else (if a0 = 3 then (impl_formOf.j0 k a0 a0 (a0 == 3)) else (impl_formOf.j0 k a0 a0 (a0 == 4)))
theorem impl_formOf.mono_l : ∀ k, (∀ y0 y1 y2, LeO (impl_formOf.j0 k y0 y1 y2) (impl_formOf.j0 (k + 1) y0 y1 y2)) ∧ (∀ y0 y1 y2, LeO (impl_formOf.j1 k y0 y1 y2) (impl_formOf.j1 (k + 1) y0 y1 y2)) ∧ (∀ y0 y1 y2, LeO (impl_formOf.j2 k y0 y1 y2) (impl_formOf.j2 (k + 1) y0 y1 y2)) ∧ (∀ y0 y1, LeO (impl_formOf.j3 k y0 y1) (impl_formOf.j3 (k + 1) y0 y1))
  | 0 => ⟨fun _ _ _ r h => by simp [impl_formOf.j0] at h, fun _ _ _ r h => by simp [impl_formOf.j1] at h, fun _ _ _ r h => by simp [impl_formOf.j2] at h, fun _ _ r h => by simp [impl_formOf.j3] at h⟩
  | k + 1 => by
    obtain ⟨ih0, ih1, ih2, ih3⟩ := impl_formOf.mono_l k
    refine ⟨?_, ?_, ?_, ?_⟩
    · intro y0 y1 y2
      unfold impl_formOf.j0
      repeat' first
      | (with_reducible exact ih0 _ _ _)
      | (with_reducible exact ih1 _ _ _)
      | (with_reducible exact ih2 _ _ _)
      | (with_reducible exact ih3 _ _)
      | (with_reducible exact LeO.refl _)
      | (with_reducible exact LeO.none _)
      | (with_reducible refine LeO.ite ?_ ?_)
      | (with_reducible refine LeO.bind ?_ (fun _ => ?_))
      | exact ih0 _ _ _
      | exact ih1 _ _ _
      | exact ih2 _ _ _
      | exact ih3 _ _
      | exact LeO.none _
      | refine LeO.ite ?_ ?_
      | refine LeO.bind ?_ (fun _ => ?_)
    · intro y0 y1 y2
      unfold impl_formOf.j1
      repeat' first
      | (with_reducible exact ih0 _ _ _)
      | (with_reducible exact ih1 _ _ _)
      | (with_reducible exact ih2 _ _ _)
      | (with_reducible exact ih3 _ _)
      | (with_reducible exact LeO.refl _)
      | (with_reducible exact LeO.none _)
      | (with_reducible refine LeO.ite ?_ ?_)
      | (with_reducible refine LeO.bind ?_ (fun _ => ?_))
      | exact ih0 _ _ _
      | exact ih1 _ _ _
      | exact ih2 _ _ _
      | exact ih3 _ _
      | exact LeO.none _
      | refine LeO.ite ?_ ?_
      | refine LeO.bind ?_ (fun _ => ?_)
    · intro y0 y1 y2
      unfold impl_formOf.j2
      repeat' first
      | (with_reducible exact ih0 _ _ _)
      | (with_reducible exact ih1 _ _ _)
      | (with_reducible exact ih2 _ _ _)
      | (with_reducible exact ih3 _ _)
      | (with_reducible exact LeO.refl _)
      | (with_reducible exact LeO.none _)
      | (with_reducible refine LeO.ite ?_ ?_)
      | (with_reducible refine LeO.bind ?_ (fun _ => ?_))
      | exact ih0 _ _ _
      | exact ih1 _ _ _
      | exact ih2 _ _ _
      | exact ih3 _ _
      | exact LeO.none _
      | refine LeO.ite ?_ ?_
      | refine LeO.bind ?_ (fun _ => ?_)
    · intro y0 y1
      unfold impl_formOf.j3
      repeat' first
      | (with_reducible exact ih0 _ _ _)
      | (with_reducible exact ih1 _ _ _)
      | (with_reducible exact ih2 _ _ _)
      | (with_reducible exact ih3 _ _)
      | (with_reducible exact LeO.refl _)
      | (with_reducible exact LeO.none _)
      | (with_reducible refine LeO.ite ?_ ?_)
      | (with_reducible refine LeO.bind ?_ (fun _ => ?_))
      | exact ih0 _ _ _
      | exact ih1 _ _ _
      | exact ih2 _ _ _
      | exact ih3 _ _
      | exact LeO.none _
      | refine LeO.ite ?_ ?_
      | refine LeO.bind ?_ (fun _ => ?_)
theorem impl_formOf.mono : ∀ a0 k, LeO (impl_formOf.f k a0) (impl_formOf.f (k + 1) a0) := by
  intro a0 k
  obtain ⟨ih0, ih1, ih2, ih3⟩ := impl_formOf.mono_l k
  unfold impl_formOf.f
  repeat' first
      | (with_reducible exact ih0 _ _ _)
      | (with_reducible exact ih1 _ _ _)
      | (with_reducible exact ih2 _ _ _)
      | (with_reducible exact ih3 _ _)
      | (with_reducible exact LeO.refl _)
      | (with_reducible exact LeO.none _)
      | (with_reducible refine LeO.ite ?_ ?_)
      | (with_reducible refine LeO.bind ?_ (fun _ => ?_))
      | exact ih0 _ _ _
      | exact ih1 _ _ _
      | exact ih2 _ _ _
      | exact ih3 _ _
      | exact LeO.none _
      | refine LeO.ite ?_ ?_
      | refine LeO.bind ?_ (fun _ => ?_)
set_option maxHeartbeats 8000000 in
set_option maxRecDepth 100000 in
theorem impl_formOf.calls (k : Nat) (a0 : Int) (r : Int) (w : World) (h : impl_formOf.f k a0 = some r) :
    Calls Try.prog 104 #[.int .i64 a0] w fun e w' => e = .returned (.int .i64 r) ∧ Drawn0 w w' := by
  have H : (if a0 = 2 then (impl_formOf.j0 k a0 a0 (a0 == 2)) else (if a0 = 3 then (impl_formOf.j0 k a0 a0 (a0 == 3)) else (impl_formOf.j0 k a0 a0 (a0 == 4)))) = some r := h
  clear h
  have HC2 := Aside0.mk H
  clear H
  go_enter Try.func104, Try.ntmps104
  go_upto_if 4 with (fail)
  go_cut [4] (fun v4 wc => ∃ (kq : Nat) (x4_1 : Bool), v4 = .bool x4_1 ∧ Aside0 (impl_formOf.j0 kq a0 a0 x4_1 = some r) ∧ Aside0 (kq ≤ k) ∧ Drawn0 w wc)
  case first =>
    have H := HC2.out
    clear HC2
    by_cases c3 : a0 = 2
    · rw [if_pos c3] at H
      have c3b0 : (a0 == 2) = true := beq_iff_eq.mpr c3
      have c3b1 : (a0 != 2) = false := bne_eq_false_iff_eq.mpr c3
      clear c3
      (first | rw [c3b0] | (simp only [i64_w, i32_w]; rw [c3b0]) | skip)
      have H' := Aside0.mk H
      clear H
      go_wp2
      go_meet
      case rel => exact ⟨_, ((a0 == 2)), (by first | rfl | (simp; done) | (simp [*]; done)), H', ⟨by first | omega | exact Nat.le_refl _⟩, by repeat (first | exact Drawn0.refl _ | apply Drawn0.step)⟩
    · rw [if_neg c3] at H
      have c3b0 : (a0 == 2) = false := beq_eq_false_iff_ne.mpr c3
      have c3b1 : (a0 != 2) = true := bne_iff_ne.mpr c3
      (first | rw [c3b0] | (simp only [i64_w, i32_w]; rw [c3b0]) | skip)
      by_cases c4 : a0 = 3
      · rw [if_pos c4] at H
        have c4b0 : (a0 == 3) = true := beq_iff_eq.mpr c4
        have c4b1 : (a0 != 3) = false := bne_eq_false_iff_eq.mpr c4
        clear c4
        have H' := Aside0.mk H
        clear H
        go_wp2
        go_meet
        case rel => exact ⟨_, ((a0 == 3)), (by first | rfl | (simp; done) | (simp [*]; done)), H', ⟨by first | omega | exact Nat.le_refl _⟩, by repeat (first | exact Drawn0.refl _ | apply Drawn0.step)⟩
      · rw [if_neg c4] at H
        have c4b0 : (a0 == 3) = false := beq_eq_false_iff_ne.mpr c4
        have c4b1 : (a0 != 3) = true := bne_iff_ne.mpr c4
        have H' := Aside0.mk H
        clear H
        go_wp2
        go_meet
        case rel => exact ⟨_, ((a0 == 4)), (by first | rfl | (simp; done) | (simp [*]; done)), H', ⟨by first | omega | exact Nat.le_refl _⟩, by repeat (first | exact Drawn0.refl _ | apply Drawn0.step)⟩
  case rest =>
    clear HC2
    try clear c1
    try clear p2
    try clear c3
    try clear c3b0
    try clear c3b1
    try clear c4
    try clear c4b0
    try clear c4b1
    obtain ⟨kq, x4_1, rfl, HA, HJ1, ⟨mc1, rfl⟩⟩ := hcut
    cases kq with
    | zero => exact absurd HA.out (by simp [impl_formOf.j0])
    | succ kj1 =>
      have H := HA.out
      clear HA
      simp only [impl_formOf.j0] at H
      by_cases c5 : x4_1 = true
      · subst c5
        have H1 : (some 2) = some r := by rw [if_pos rfl] at H; exact H
        clear H
        have H := H1
        clear H1
        obtain rfl := Option.some.inj H
        go_wp2
        go_ret
        exact ⟨by first | rfl | (simp; done) | (simp [*]; done), by repeat (first | exact Drawn0.refl _ | apply Drawn0.step)⟩
      · replace c5 := Bool.eq_false_iff.mpr c5
        subst c5
        have H1 : (if a0 = 12 then (impl_formOf.j1 kj1 a0 a0 (a0 == 12)) else (if a0 = 13 then (impl_formOf.j1 kj1 a0 a0 (a0 == 13)) else (if a0 = 16 then (impl_formOf.j1 kj1 a0 a0 (a0 == 16)) else (if a0 = 32 then (impl_formOf.j1 kj1 a0 a0 (a0 == 32)) else (if a0 = 33 then (impl_formOf.j1 kj1 a0 a0 (a0 == 33)) else (if a0 = 34 then (impl_formOf.j1 kj1 a0 a0 (a0 == 34)) else (if a0 = 35 then (impl_formOf.j1 kj1 a0 a0 (a0 == 35)) else (impl_formOf.j1 kj1 a0 a0 (a0 == 36))))))))) = some r := by rw [if_neg (show ¬ (false = true) by decide)] at H; exact H
        clear H
        have H := H1
        clear H1
        have HC6 := Aside0.mk H
        clear H
        go_upto_if 8 with (fail)
        go_cut [8] (fun v8 wc => ∃ (kq : Nat) (x8_5 : Bool), v8 = .bool x8_5 ∧ Aside0 (impl_formOf.j1 kq a0 a0 x8_5 = some r) ∧ Aside0 (kq ≤ kj1) ∧ Drawn0 w wc)
        case first =>
          have H := HC6.out
          clear HC6
          by_cases c7 : a0 = 12
          · rw [if_pos c7] at H
            have c7b0 : (a0 == 12) = true := beq_iff_eq.mpr c7
            have c7b1 : (a0 != 12) = false := bne_eq_false_iff_eq.mpr c7
            clear c7
            (first | rw [c7b0] | (simp only [i64_w, i32_w]; rw [c7b0]) | skip)
            have H' := Aside0.mk H
            clear H
            go_wp2
            go_meet
            case rel => exact ⟨_, ((a0 == 12)), (by first | rfl | (simp; done) | (simp [*]; done)), H', ⟨by have := HJ1.out; first | omega | exact Nat.le_refl _⟩, by repeat (first | exact Drawn0.refl _ | apply Drawn0.step)⟩
          · rw [if_neg c7] at H
            have c7b0 : (a0 == 12) = false := beq_eq_false_iff_ne.mpr c7
            have c7b1 : (a0 != 12) = true := bne_iff_ne.mpr c7
            (first | rw [c7b0] | (simp only [i64_w, i32_w]; rw [c7b0]) | skip)
            by_cases c8 : a0 = 13
            · rw [if_pos c8] at H
              have c8b0 : (a0 == 13) = true := beq_iff_eq.mpr c8
              have c8b1 : (a0 != 13) = false := bne_eq_false_iff_eq.mpr c8
              clear c8
              have H' := Aside0.mk H
              clear H
              go_wp2
              go_meet
              case rel => exact ⟨_, ((a0 == 13)), (by first | rfl | (simp; done) | (simp [*]; done)), H', ⟨by have := HJ1.out; first | omega | exact Nat.le_refl _⟩, by repeat (first | exact Drawn0.refl _ | apply Drawn0.step)⟩
            · rw [if_neg c8] at H
              have c8b0 : (a0 == 13) = false := beq_eq_false_iff_ne.mpr c8
              have c8b1 : (a0 != 13) = true := bne_iff_ne.mpr c8
              by_cases c9 : a0 = 16
              · rw [if_pos c9] at H
                have c9b0 : (a0 == 16) = true := beq_iff_eq.mpr c9
                have c9b1 : (a0 != 16) = false := bne_eq_false_iff_eq.mpr c9
                clear c9
                have H' := Aside0.mk H
                clear H
                go_wp2
                go_meet
                case rel => exact ⟨_, ((a0 == 16)), (by first | rfl | (simp; done) | (simp [*]; done)), H', ⟨by have := HJ1.out; first | omega | exact Nat.le_refl _⟩, by repeat (first | exact Drawn0.refl _ | apply Drawn0.step)⟩
              · rw [if_neg c9] at H
                have c9b0 : (a0 == 16) = false := beq_eq_false_iff_ne.mpr c9
                have c9b1 : (a0 != 16) = true := bne_iff_ne.mpr c9
                by_cases c10 : a0 = 32
                · rw [if_pos c10] at H
                  have c10b0 : (a0 == 32) = true := beq_iff_eq.mpr c10
                  have c10b1 : (a0 != 32) = false := bne_eq_false_iff_eq.mpr c10
                  clear c10
                  have H' := Aside0.mk H
                  clear H
                  go_wp2
                  go_meet
                  case rel => exact ⟨_, ((a0 == 32)), (by first | rfl | (simp; done) | (simp [*]; done)), H', ⟨by have := HJ1.out; first | omega | exact Nat.le_refl _⟩, by repeat (first | exact Drawn0.refl _ | apply Drawn0.step)⟩
                · rw [if_neg c10] at H
                  have c10b0 : (a0 == 32) = false := beq_eq_false_iff_ne.mpr c10
                  have c10b1 : (a0 != 32) = true := bne_iff_ne.mpr c10
                  by_cases c11 : a0 = 33
                  · rw [if_pos c11] at H
                    have c11b0 : (a0 == 33) = true := beq_iff_eq.mpr c11
                    have c11b1 : (a0 != 33) = false := bne_eq_false_iff_eq.mpr c11
                    clear c11
                    have H' := Aside0.mk H
                    clear H
                    go_wp2
                    go_meet
                    case rel => exact ⟨_, ((a0 == 33)), (by first | rfl | (simp; done) | (simp [*]; done)), H', ⟨by have := HJ1.out; first | omega | exact Nat.le_refl _⟩, by repeat (first | exact Drawn0.refl _ | apply Drawn0.step)⟩
                  · rw [if_neg c11] at H
                    have c11b0 : (a0 == 33) = false := beq_eq_false_iff_ne.mpr c11
                    have c11b1 : (a0 != 33) = true := bne_iff_ne.mpr c11
                    by_cases c12 : a0 = 34
                    · rw [if_pos c12] at H
                      have c12b0 : (a0 == 34) = true := beq_iff_eq.mpr c12
                      have c12b1 : (a0 != 34) = false := bne_eq_false_iff_eq.mpr c12
                      clear c12
                      have H' := Aside0.mk H
                      clear H
                      go_wp2
                      go_meet
                      case rel => exact ⟨_, ((a0 == 34)), (by first | rfl | (simp; done) | (simp [*]; done)), H', ⟨by have := HJ1.out; first | omega | exact Nat.le_refl _⟩, by repeat (first | exact Drawn0.refl _ | apply Drawn0.step)⟩
                    · rw [if_neg c12] at H
                      have c12b0 : (a0 == 34) = false := beq_eq_false_iff_ne.mpr c12
                      have c12b1 : (a0 != 34) = true := bne_iff_ne.mpr c12
                      by_cases c13 : a0 = 35
                      · rw [if_pos c13] at H
                        have c13b0 : (a0 == 35) = true := beq_iff_eq.mpr c13
                        have c13b1 : (a0 != 35) = false := bne_eq_false_iff_eq.mpr c13
                        clear c13
                        have H' := Aside0.mk H
                        clear H
                        go_wp2
                        go_meet
                        case rel => exact ⟨_, ((a0 == 35)), (by first | rfl | (simp; done) | (simp [*]; done)), H', ⟨by have := HJ1.out; first | omega | exact Nat.le_refl _⟩, by repeat (first | exact Drawn0.refl _ | apply Drawn0.step)⟩
                      · rw [if_neg c13] at H
                        have c13b0 : (a0 == 35) = false := beq_eq_false_iff_ne.mpr c13
                        have c13b1 : (a0 != 35) = true := bne_iff_ne.mpr c13
                        have H' := Aside0.mk H
                        clear H
                        go_wp2
                        go_meet
                        case rel => exact ⟨_, ((a0 == 36)), (by first | rfl | (simp; done) | (simp [*]; done)), H', ⟨by have := HJ1.out; first | omega | exact Nat.le_refl _⟩, by repeat (first | exact Drawn0.refl _ | apply Drawn0.step)⟩
        case rest =>
          clear HC6
          try clear c1
          try clear p2
          try clear c3
          try clear c3b0
          try clear c3b1
          try clear c4
          try clear c4b0
          try clear c4b1
          try clear c5
          try clear c7
          try clear c7b0
          try clear c7b1
          try clear c8
          try clear c8b0
          try clear c8b1
          try clear c9
          try clear c9b0
          try clear c9b1
          try clear c10
          try clear c10b0
          try clear c10b1
          try clear c11
          try clear c11b0
          try clear c11b1
          try clear c12
          try clear c12b0
          try clear c12b1
          try clear c13
          try clear c13b0
          try clear c13b1
          try clear p2
          obtain ⟨kq, x8_5, rfl, HA, HJ5, ⟨mc5, rfl⟩⟩ := hcut
          cases kq with
          | zero => exact absurd HA.out (by simp [impl_formOf.j1])
          | succ kj5 =>
            have H := HA.out
            clear HA
            simp only [impl_formOf.j1] at H
            by_cases c14 : x8_5 = true
            · subst c14
              have H1 : (some 3) = some r := by rw [if_pos rfl] at H; exact H
              clear H
              have H := H1
              clear H1
              obtain rfl := Option.some.inj H
              go_wp2
              go_ret
              exact ⟨by first | rfl | (simp; done) | (simp [*]; done), by repeat (first | exact Drawn0.refl _ | apply Drawn0.step)⟩
            · replace c14 := Bool.eq_false_iff.mpr c14
              subst c14
              have H1 : (if a0 = 40 then (impl_formOf.j2 kj5 a0 a0 (a0 == 40)) else (if a0 = 41 then (impl_formOf.j2 kj5 a0 a0 (a0 == 41)) else (if a0 = 54 then (impl_formOf.j2 kj5 a0 a0 (a0 == 54)) else (impl_formOf.j2 kj5 a0 a0 (a0 == 55))))) = some r := by rw [if_neg (show ¬ (false = true) by decide)] at H; exact H
              clear H
              have H := H1
              clear H1
              have HC15 := Aside0.mk H
              clear H
              go_upto_if 17 with (fail)
              go_cut [17] (fun v17 wc => ∃ (kq : Nat) (x17_14 : Bool), v17 = .bool x17_14 ∧ Aside0 (impl_formOf.j2 kq a0 a0 x17_14 = some r) ∧ Aside0 (kq ≤ kj5) ∧ Drawn0 w wc)
              case first =>
                have H := HC15.out
                clear HC15
                by_cases c16 : a0 = 40
                · rw [if_pos c16] at H
                  have c16b0 : (a0 == 40) = true := beq_iff_eq.mpr c16
                  have c16b1 : (a0 != 40) = false := bne_eq_false_iff_eq.mpr c16
                  clear c16
                  (first | rw [c16b0] | (simp only [i64_w, i32_w]; rw [c16b0]) | skip)
                  have H' := Aside0.mk H
                  clear H
                  go_wp2
                  go_meet
                  case rel => exact ⟨_, ((a0 == 40)), (by first | rfl | (simp; done) | (simp [*]; done)), H', ⟨by have := HJ1.out; have := HJ5.out; first | omega | exact Nat.le_refl _⟩, by repeat (first | exact Drawn0.refl _ | apply Drawn0.step)⟩
                · rw [if_neg c16] at H
                  have c16b0 : (a0 == 40) = false := beq_eq_false_iff_ne.mpr c16
                  have c16b1 : (a0 != 40) = true := bne_iff_ne.mpr c16
                  (first | rw [c16b0] | (simp only [i64_w, i32_w]; rw [c16b0]) | skip)
                  by_cases c17 : a0 = 41
                  · rw [if_pos c17] at H
                    have c17b0 : (a0 == 41) = true := beq_iff_eq.mpr c17
                    have c17b1 : (a0 != 41) = false := bne_eq_false_iff_eq.mpr c17
                    clear c17
                    have H' := Aside0.mk H
                    clear H
                    go_wp2
                    go_meet
                    case rel => exact ⟨_, ((a0 == 41)), (by first | rfl | (simp; done) | (simp [*]; done)), H', ⟨by have := HJ1.out; have := HJ5.out; first | omega | exact Nat.le_refl _⟩, by repeat (first | exact Drawn0.refl _ | apply Drawn0.step)⟩
                  · rw [if_neg c17] at H
                    have c17b0 : (a0 == 41) = false := beq_eq_false_iff_ne.mpr c17
                    have c17b1 : (a0 != 41) = true := bne_iff_ne.mpr c17
                    by_cases c18 : a0 = 54
                    · rw [if_pos c18] at H
                      have c18b0 : (a0 == 54) = true := beq_iff_eq.mpr c18
                      have c18b1 : (a0 != 54) = false := bne_eq_false_iff_eq.mpr c18
                      clear c18
                      have H' := Aside0.mk H
                      clear H
                      go_wp2
                      go_meet
                      case rel => exact ⟨_, ((a0 == 54)), (by first | rfl | (simp; done) | (simp [*]; done)), H', ⟨by have := HJ1.out; have := HJ5.out; first | omega | exact Nat.le_refl _⟩, by repeat (first | exact Drawn0.refl _ | apply Drawn0.step)⟩
                    · rw [if_neg c18] at H
                      have c18b0 : (a0 == 54) = false := beq_eq_false_iff_ne.mpr c18
                      have c18b1 : (a0 != 54) = true := bne_iff_ne.mpr c18
                      have H' := Aside0.mk H
                      clear H
                      go_wp2
                      go_meet
                      case rel => exact ⟨_, ((a0 == 55)), (by first | rfl | (simp; done) | (simp [*]; done)), H', ⟨by have := HJ1.out; have := HJ5.out; first | omega | exact Nat.le_refl _⟩, by repeat (first | exact Drawn0.refl _ | apply Drawn0.step)⟩
              case rest =>
                clear HC15
                try clear c1
                try clear p2
                try clear c3
                try clear c3b0
                try clear c3b1
                try clear c4
                try clear c4b0
                try clear c4b1
                try clear c5
                try clear c7
                try clear c7b0
                try clear c7b1
                try clear c8
                try clear c8b0
                try clear c8b1
                try clear c9
                try clear c9b0
                try clear c9b1
                try clear c10
                try clear c10b0
                try clear c10b1
                try clear c11
                try clear c11b0
                try clear c11b1
                try clear c12
                try clear c12b0
                try clear c12b1
                try clear c13
                try clear c13b0
                try clear c13b1
                try clear c14
                try clear c16
                try clear c16b0
                try clear c16b1
                try clear c17
                try clear c17b0
                try clear c17b1
                try clear c18
                try clear c18b0
                try clear c18b1
                try clear p2
                obtain ⟨kq, x17_14, rfl, HA, HJ14, ⟨mc14, rfl⟩⟩ := hcut
                cases kq with
                | zero => exact absurd HA.out (by simp [impl_formOf.j2])
                | succ kj14 =>
                  have H := HA.out
                  clear HA
                  simp only [impl_formOf.j2] at H
                  by_cases c19 : x17_14 = true
                  · subst c19
                    have H1 : (some 4) = some r := by rw [if_pos rfl] at H; exact H
                    clear H
                    have H := H1
                    clear H1
                    obtain rfl := Option.some.inj H
                    go_wp2
                    go_ret
                    exact ⟨by first | rfl | (simp; done) | (simp [*]; done), by repeat (first | exact Drawn0.refl _ | apply Drawn0.step)⟩
                  · replace c19 := Bool.eq_false_iff.mpr c19
                    subst c19
                    have H1 : (if a0 = 65 then (some 5) else (if a0 = 66 then (some 6) else (if a0 = 67 then (some 7) else (if a0 = 0 then (impl_formOf.j3 kj14 a0 (a0 == 0)) else (if a0 = 1 then (impl_formOf.j3 kj14 a0 (a0 == 1)) else (if a0 = 5 then (impl_formOf.j3 kj14 a0 (a0 == 5)) else (if a0 = 11 then (impl_formOf.j3 kj14 a0 (a0 == 11)) else (if a0 = 15 then (impl_formOf.j3 kj14 a0 (a0 == 15)) else (if a0 = 26 then (impl_formOf.j3 kj14 a0 (a0 == 26)) else (if a0 = 27 then (impl_formOf.j3 kj14 a0 (a0 == 27)) else (if a0 = 63 then (impl_formOf.j3 kj14 a0 (a0 == 63)) else (if a0 = 64 then (impl_formOf.j3 kj14 a0 (a0 == 64)) else (if a0 = 176 then (impl_formOf.j3 kj14 a0 (a0 == 176)) else (if a0 = 177 then (impl_formOf.j3 kj14 a0 (a0 == 177)) else (if a0 = 178 then (impl_formOf.j3 kj14 a0 (a0 == 178)) else (if a0 = 179 then (impl_formOf.j3 kj14 a0 (a0 == 179)) else (impl_formOf.j3 kj14 a0 (a0 == 180)))))))))))))))))) = some r := by rw [if_neg (show ¬ (false = true) by decide)] at H; exact H
                    clear H
                    have H := H1
                    clear H1
                    by_cases c20 : a0 = 65
                    · rw [if_pos c20] at H
                      have c20b0 : (a0 == 65) = true := beq_iff_eq.mpr c20
                      have c20b1 : (a0 != 65) = false := bne_eq_false_iff_eq.mpr c20
                      clear c20
                      obtain rfl := Option.some.inj H
                      go_wp2
                      go_ret
                      exact ⟨by first | rfl | (simp; done) | (simp [*]; done), by repeat (first | exact Drawn0.refl _ | apply Drawn0.step)⟩
                    · rw [if_neg c20] at H
                      have c20b0 : (a0 == 65) = false := beq_eq_false_iff_ne.mpr c20
                      have c20b1 : (a0 != 65) = true := bne_iff_ne.mpr c20
                      by_cases c21 : a0 = 66
                      · rw [if_pos c21] at H
                        have c21b0 : (a0 == 66) = true := beq_iff_eq.mpr c21
                        have c21b1 : (a0 != 66) = false := bne_eq_false_iff_eq.mpr c21
                        clear c21
                        obtain rfl := Option.some.inj H
                        go_wp2
                        go_ret
                        exact ⟨by first | rfl | (simp; done) | (simp [*]; done), by repeat (first | exact Drawn0.refl _ | apply Drawn0.step)⟩
                      · rw [if_neg c21] at H
                        have c21b0 : (a0 == 66) = false := beq_eq_false_iff_ne.mpr c21
                        have c21b1 : (a0 != 66) = true := bne_iff_ne.mpr c21
                        by_cases c22 : a0 = 67
                        · rw [if_pos c22] at H
                          have c22b0 : (a0 == 67) = true := beq_iff_eq.mpr c22
                          have c22b1 : (a0 != 67) = false := bne_eq_false_iff_eq.mpr c22
                          clear c22
                          obtain rfl := Option.some.inj H
                          go_wp2
                          go_ret
                          exact ⟨by first | rfl | (simp; done) | (simp [*]; done), by repeat (first | exact Drawn0.refl _ | apply Drawn0.step)⟩
                        · rw [if_neg c22] at H
                          have c22b0 : (a0 == 67) = false := beq_eq_false_iff_ne.mpr c22
                          have c22b1 : (a0 != 67) = true := bne_iff_ne.mpr c22
                          have HC23 := Aside0.mk H
                          clear H
                          go_upto_if 28 with (fail)
                          go_cut [28] (fun v28 wc => ∃ (kq : Nat) (x28_22 : Bool), v28 = .bool x28_22 ∧ Aside0 (impl_formOf.j3 kq a0 x28_22 = some r) ∧ Aside0 (kq ≤ kj14) ∧ Drawn0 w wc)
                          case first =>
                            have H := HC23.out
                            clear HC23
                            by_cases c24 : a0 = 0
                            · rw [if_pos c24] at H
                              have c24b0 : (a0 == 0) = true := beq_iff_eq.mpr c24
                              have c24b1 : (a0 != 0) = false := bne_eq_false_iff_eq.mpr c24
                              clear c24
                              (first | rw [c24b0] | (simp only [i64_w, i32_w]; rw [c24b0]) | skip)
                              have H' := Aside0.mk H
                              clear H
                              go_wp2
                              go_meet
                              case rel => exact ⟨_, ((a0 == 0)), (by first | rfl | (simp; done) | (simp [*]; done)), H', ⟨by have := HJ1.out; have := HJ5.out; have := HJ14.out; first | omega | exact Nat.le_refl _⟩, by repeat (first | exact Drawn0.refl _ | apply Drawn0.step)⟩
                            · rw [if_neg c24] at H
                              have c24b0 : (a0 == 0) = false := beq_eq_false_iff_ne.mpr c24
                              have c24b1 : (a0 != 0) = true := bne_iff_ne.mpr c24
                              (first | rw [c24b0] | (simp only [i64_w, i32_w]; rw [c24b0]) | skip)
                              by_cases c25 : a0 = 1
                              · rw [if_pos c25] at H
                                have c25b0 : (a0 == 1) = true := beq_iff_eq.mpr c25
                                have c25b1 : (a0 != 1) = false := bne_eq_false_iff_eq.mpr c25
                                clear c25
                                have H' := Aside0.mk H
                                clear H
                                go_wp2
                                go_meet
                                case rel => exact ⟨_, ((a0 == 1)), (by first | rfl | (simp; done) | (simp [*]; done)), H', ⟨by have := HJ1.out; have := HJ5.out; have := HJ14.out; first | omega | exact Nat.le_refl _⟩, by repeat (first | exact Drawn0.refl _ | apply Drawn0.step)⟩
                              · rw [if_neg c25] at H
                                have c25b0 : (a0 == 1) = false := beq_eq_false_iff_ne.mpr c25
                                have c25b1 : (a0 != 1) = true := bne_iff_ne.mpr c25
                                by_cases c26 : a0 = 5
                                · rw [if_pos c26] at H
                                  have c26b0 : (a0 == 5) = true := beq_iff_eq.mpr c26
                                  have c26b1 : (a0 != 5) = false := bne_eq_false_iff_eq.mpr c26
                                  clear c26
                                  have H' := Aside0.mk H
                                  clear H
                                  go_wp2
                                  go_meet
                                  case rel => exact ⟨_, ((a0 == 5)), (by first | rfl | (simp; done) | (simp [*]; done)), H', ⟨by have := HJ1.out; have := HJ5.out; have := HJ14.out; first | omega | exact Nat.le_refl _⟩, by repeat (first | exact Drawn0.refl _ | apply Drawn0.step)⟩
                                · rw [if_neg c26] at H
                                  have c26b0 : (a0 == 5) = false := beq_eq_false_iff_ne.mpr c26
                                  have c26b1 : (a0 != 5) = true := bne_iff_ne.mpr c26
                                  by_cases c27 : a0 = 11
                                  · rw [if_pos c27] at H
                                    have c27b0 : (a0 == 11) = true := beq_iff_eq.mpr c27
                                    have c27b1 : (a0 != 11) = false := bne_eq_false_iff_eq.mpr c27
                                    clear c27
                                    have H' := Aside0.mk H
                                    clear H
                                    go_wp2
                                    go_meet
                                    case rel => exact ⟨_, ((a0 == 11)), (by first | rfl | (simp; done) | (simp [*]; done)), H', ⟨by have := HJ1.out; have := HJ5.out; have := HJ14.out; first | omega | exact Nat.le_refl _⟩, by repeat (first | exact Drawn0.refl _ | apply Drawn0.step)⟩
                                  · rw [if_neg c27] at H
                                    have c27b0 : (a0 == 11) = false := beq_eq_false_iff_ne.mpr c27
                                    have c27b1 : (a0 != 11) = true := bne_iff_ne.mpr c27
                                    by_cases c28 : a0 = 15
                                    · rw [if_pos c28] at H
                                      have c28b0 : (a0 == 15) = true := beq_iff_eq.mpr c28
                                      have c28b1 : (a0 != 15) = false := bne_eq_false_iff_eq.mpr c28
                                      clear c28
                                      have H' := Aside0.mk H
                                      clear H
                                      go_wp2
                                      go_meet
                                      case rel => exact ⟨_, ((a0 == 15)), (by first | rfl | (simp; done) | (simp [*]; done)), H', ⟨by have := HJ1.out; have := HJ5.out; have := HJ14.out; first | omega | exact Nat.le_refl _⟩, by repeat (first | exact Drawn0.refl _ | apply Drawn0.step)⟩
                                    · rw [if_neg c28] at H
                                      have c28b0 : (a0 == 15) = false := beq_eq_false_iff_ne.mpr c28
                                      have c28b1 : (a0 != 15) = true := bne_iff_ne.mpr c28
                                      by_cases c29 : a0 = 26
                                      · rw [if_pos c29] at H
                                        have c29b0 : (a0 == 26) = true := beq_iff_eq.mpr c29
                                        have c29b1 : (a0 != 26) = false := bne_eq_false_iff_eq.mpr c29
                                        clear c29
                                        have H' := Aside0.mk H
                                        clear H
                                        go_wp2
                                        go_meet
                                        case rel => exact ⟨_, ((a0 == 26)), (by first | rfl | (simp; done) | (simp [*]; done)), H', ⟨by have := HJ1.out; have := HJ5.out; have := HJ14.out; first | omega | exact Nat.le_refl _⟩, by repeat (first | exact Drawn0.refl _ | apply Drawn0.step)⟩
                                      · rw [if_neg c29] at H
                                        have c29b0 : (a0 == 26) = false := beq_eq_false_iff_ne.mpr c29
                                        have c29b1 : (a0 != 26) = true := bne_iff_ne.mpr c29
                                        by_cases c30 : a0 = 27
                                        · rw [if_pos c30] at H
                                          have c30b0 : (a0 == 27) = true := beq_iff_eq.mpr c30
                                          have c30b1 : (a0 != 27) = false := bne_eq_false_iff_eq.mpr c30
                                          clear c30
                                          have H' := Aside0.mk H
                                          clear H
                                          go_wp2
                                          go_meet
                                          case rel => exact ⟨_, ((a0 == 27)), (by first | rfl | (simp; done) | (simp [*]; done)), H', ⟨by have := HJ1.out; have := HJ5.out; have := HJ14.out; first | omega | exact Nat.le_refl _⟩, by repeat (first | exact Drawn0.refl _ | apply Drawn0.step)⟩
                                        · rw [if_neg c30] at H
                                          have c30b0 : (a0 == 27) = false := beq_eq_false_iff_ne.mpr c30
                                          have c30b1 : (a0 != 27) = true := bne_iff_ne.mpr c30
                                          by_cases c31 : a0 = 63
                                          · rw [if_pos c31] at H
                                            have c31b0 : (a0 == 63) = true := beq_iff_eq.mpr c31
                                            have c31b1 : (a0 != 63) = false := bne_eq_false_iff_eq.mpr c31
                                            clear c31
                                            have H' := Aside0.mk H
                                            clear H
                                            go_wp2
                                            go_meet
                                            case rel => exact ⟨_, ((a0 == 63)), (by first | rfl | (simp; done) | (simp [*]; done)), H', ⟨by have := HJ1.out; have := HJ5.out; have := HJ14.out; first | omega | exact Nat.le_refl _⟩, by repeat (first | exact Drawn0.refl _ | apply Drawn0.step)⟩
                                          · rw [if_neg c31] at H
                                            have c31b0 : (a0 == 63) = false := beq_eq_false_iff_ne.mpr c31
                                            have c31b1 : (a0 != 63) = true := bne_iff_ne.mpr c31
                                            by_cases c32 : a0 = 64
                                            · rw [if_pos c32] at H
                                              have c32b0 : (a0 == 64) = true := beq_iff_eq.mpr c32
                                              have c32b1 : (a0 != 64) = false := bne_eq_false_iff_eq.mpr c32
                                              clear c32
                                              have H' := Aside0.mk H
                                              clear H
                                              go_wp2
                                              go_meet
                                              case rel => exact ⟨_, ((a0 == 64)), (by first | rfl | (simp; done) | (simp [*]; done)), H', ⟨by have := HJ1.out; have := HJ5.out; have := HJ14.out; first | omega | exact Nat.le_refl _⟩, by repeat (first | exact Drawn0.refl _ | apply Drawn0.step)⟩
                                            · rw [if_neg c32] at H
                                              have c32b0 : (a0 == 64) = false := beq_eq_false_iff_ne.mpr c32
                                              have c32b1 : (a0 != 64) = true := bne_iff_ne.mpr c32
                                              by_cases c33 : a0 = 176
                                              · rw [if_pos c33] at H
                                                have c33b0 : (a0 == 176) = true := beq_iff_eq.mpr c33
                                                have c33b1 : (a0 != 176) = false := bne_eq_false_iff_eq.mpr c33
                                                clear c33
                                                have H' := Aside0.mk H
                                                clear H
                                                go_wp2
                                                go_meet
                                                case rel => exact ⟨_, ((a0 == 176)), (by first | rfl | (simp; done) | (simp [*]; done)), H', ⟨by have := HJ1.out; have := HJ5.out; have := HJ14.out; first | omega | exact Nat.le_refl _⟩, by repeat (first | exact Drawn0.refl _ | apply Drawn0.step)⟩
                                              · rw [if_neg c33] at H
                                                have c33b0 : (a0 == 176) = false := beq_eq_false_iff_ne.mpr c33
                                                have c33b1 : (a0 != 176) = true := bne_iff_ne.mpr c33
                                                by_cases c34 : a0 = 177
                                                · rw [if_pos c34] at H
                                                  have c34b0 : (a0 == 177) = true := beq_iff_eq.mpr c34
                                                  have c34b1 : (a0 != 177) = false := bne_eq_false_iff_eq.mpr c34
                                                  clear c34
                                                  have H' := Aside0.mk H
                                                  clear H
                                                  go_wp2
                                                  go_meet
                                                  case rel => exact ⟨_, ((a0 == 177)), (by first | rfl | (simp; done) | (simp [*]; done)), H', ⟨by have := HJ1.out; have := HJ5.out; have := HJ14.out; first | omega | exact Nat.le_refl _⟩, by repeat (first | exact Drawn0.refl _ | apply Drawn0.step)⟩
                                                · rw [if_neg c34] at H
                                                  have c34b0 : (a0 == 177) = false := beq_eq_false_iff_ne.mpr c34
                                                  have c34b1 : (a0 != 177) = true := bne_iff_ne.mpr c34
                                                  by_cases c35 : a0 = 178
                                                  · rw [if_pos c35] at H
                                                    have c35b0 : (a0 == 178) = true := beq_iff_eq.mpr c35
                                                    have c35b1 : (a0 != 178) = false := bne_eq_false_iff_eq.mpr c35
                                                    clear c35
                                                    have H' := Aside0.mk H
                                                    clear H
                                                    go_wp2
                                                    go_meet
                                                    case rel => exact ⟨_, ((a0 == 178)), (by first | rfl | (simp; done) | (simp [*]; done)), H', ⟨by have := HJ1.out; have := HJ5.out; have := HJ14.out; first | omega | exact Nat.le_refl _⟩, by repeat (first | exact Drawn0.refl _ | apply Drawn0.step)⟩
                                                  · rw [if_neg c35] at H
                                                    have c35b0 : (a0 == 178) = false := beq_eq_false_iff_ne.mpr c35
                                                    have c35b1 : (a0 != 178) = true := bne_iff_ne.mpr c35
                                                    by_cases c36 : a0 = 179
                                                    · rw [if_pos c36] at H
                                                      have c36b0 : (a0 == 179) = true := beq_iff_eq.mpr c36
                                                      have c36b1 : (a0 != 179) = false := bne_eq_false_iff_eq.mpr c36
                                                      clear c36
                                                      have H' := Aside0.mk H
                                                      clear H
                                                      go_wp2
                                                      go_meet
                                                      case rel => exact ⟨_, ((a0 == 179)), (by first | rfl | (simp; done) | (simp [*]; done)), H', ⟨by have := HJ1.out; have := HJ5.out; have := HJ14.out; first | omega | exact Nat.le_refl _⟩, by repeat (first | exact Drawn0.refl _ | apply Drawn0.step)⟩
                                                    · rw [if_neg c36] at H
                                                      have c36b0 : (a0 == 179) = false := beq_eq_false_iff_ne.mpr c36
                                                      have c36b1 : (a0 != 179) = true := bne_iff_ne.mpr c36
                                                      have H' := Aside0.mk H
                                                      clear H
                                                      go_wp2
                                                      go_meet
                                                      case rel => exact ⟨_, ((a0 == 180)), (by first | rfl | (simp; done) | (simp [*]; done)), H', ⟨by have := HJ1.out; have := HJ5.out; have := HJ14.out; first | omega | exact Nat.le_refl _⟩, by repeat (first | exact Drawn0.refl _ | apply Drawn0.step)⟩
                          case rest =>
                            clear HC23
                            try clear c1
                            try clear c2
                            try clear p2
                            try clear c3
                            try clear c3b0
                            try clear c3b1
                            try clear c4
                            try clear c4b0
                            try clear c4b1
                            try clear c5
                            try clear c7
                            try clear c7b0
                            try clear c7b1
                            try clear c8
                            try clear c8b0
                            try clear c8b1
                            try clear c9
                            try clear c9b0
                            try clear c9b1
                            try clear c10
                            try clear c10b0
                            try clear c10b1
                            try clear c11
                            try clear c11b0
                            try clear c11b1
                            try clear c12
                            try clear c12b0
                            try clear c12b1
                            try clear c13
                            try clear c13b0
                            try clear c13b1
                            try clear c14
                            try clear c16
                            try clear c16b0
                            try clear c16b1
                            try clear c17
                            try clear c17b0
                            try clear c17b1
                            try clear c18
                            try clear c18b0
                            try clear c18b1
                            try clear c19
                            try clear c20
                            try clear c20b0
                            try clear c20b1
                            try clear c21
                            try clear c21b0
                            try clear c21b1
                            try clear c22
                            try clear c22b0
                            try clear c22b1
                            try clear c24
                            try clear c24b0
                            try clear c24b1
                            try clear c25
                            try clear c25b0
                            try clear c25b1
                            try clear c26
                            try clear c26b0
                            try clear c26b1
                            try clear c27
                            try clear c27b0
                            try clear c27b1
                            try clear c28
                            try clear c28b0
                            try clear c28b1
                            try clear c29
                            try clear c29b0
                            try clear c29b1
                            try clear c30
                            try clear c30b0
                            try clear c30b1
                            try clear c31
                            try clear c31b0
                            try clear c31b1
                            try clear c32
                            try clear c32b0
                            try clear c32b1
                            try clear c33
                            try clear c33b0
                            try clear c33b1
                            try clear c34
                            try clear c34b0
                            try clear c34b1
                            try clear c35
                            try clear c35b0
                            try clear c35b1
                            try clear c36
                            try clear c36b0
                            try clear c36b1
                            try clear p2
                            obtain ⟨kq, x28_22, rfl, HA, HJ22, ⟨mc22, rfl⟩⟩ := hcut
                            cases kq with
                            | zero => exact absurd HA.out (by simp [impl_formOf.j3])
                            | succ kj22 =>
                              have H := HA.out
                              clear HA
                              simp only [impl_formOf.j3] at H
                              by_cases c37 : x28_22 = true
                              · subst c37
                                have H1 : (some 1) = some r := by rw [if_pos rfl] at H; exact H
                                clear H
                                have H := H1
                                clear H1
                                obtain rfl := Option.some.inj H
                                go_wp2
                                go_ret
                                exact ⟨by first | rfl | (simp; done) | (simp [*]; done), by repeat (first | exact Drawn0.refl _ | apply Drawn0.step)⟩
                              · replace c37 := Bool.eq_false_iff.mpr c37
                                subst c37
                                have H1 : (if a0 > 96 then (if a0 ≤ 123 then (some 1) else (if a0 > 128 then (if a0 ≤ 155 then (some 1) else (if a0 > 160 then (if a0 ≤ 169 then (some 1) else (some 0)) else (some 0))) else (if a0 > 160 then (if a0 ≤ 169 then (some 1) else (some 0)) else (some 0)))) else (if a0 > 128 then (if a0 ≤ 155 then (some 1) else (if a0 > 160 then (if a0 ≤ 169 then (some 1) else (some 0)) else (some 0))) else (if a0 > 160 then (if a0 ≤ 169 then (some 1) else (some 0)) else (some 0)))) = some r := by rw [if_neg (show ¬ (false = true) by decide)] at H; exact H
                                clear H
                                have H := H1
                                clear H1
                                by_cases c38 : a0 > 96
                                · rw [if_pos c38] at H
                                  have c38b0 : decide (96 < a0) = true := decide_eq_true c38
                                  clear c38
                                  by_cases c39 : a0 ≤ 123
                                  · rw [if_pos c39] at H
                                    have c39b0 : decide (a0 ≤ 123) = true := decide_eq_true c39
                                    clear c39
                                    obtain rfl := Option.some.inj H
                                    go_wp2
                                    go_ret
                                    exact ⟨by first | rfl | (simp; done) | (simp [*]; done), by repeat (first | exact Drawn0.refl _ | apply Drawn0.step)⟩
                                  · rw [if_neg c39] at H
                                    have c39b0 : decide (a0 ≤ 123) = false := decide_eq_false c39
                                    clear c39
                                    by_cases c40 : a0 > 128
                                    · rw [if_pos c40] at H
                                      have c40b0 : decide (128 < a0) = true := decide_eq_true c40
                                      clear c40
                                      by_cases c41 : a0 ≤ 155
                                      · rw [if_pos c41] at H
                                        have c41b0 : decide (a0 ≤ 155) = true := decide_eq_true c41
                                        clear c41
                                        obtain rfl := Option.some.inj H
                                        go_wp2
                                        go_ret
                                        exact ⟨by first | rfl | (simp; done) | (simp [*]; done), by repeat (first | exact Drawn0.refl _ | apply Drawn0.step)⟩
                                      · rw [if_neg c41] at H
                                        have c41b0 : decide (a0 ≤ 155) = false := decide_eq_false c41
                                        clear c41
                                        by_cases c42 : a0 > 160
                                        · rw [if_pos c42] at H
                                          have c42b0 : decide (160 < a0) = true := decide_eq_true c42
                                          clear c42
                                          by_cases c43 : a0 ≤ 169
                                          · rw [if_pos c43] at H
                                            have c43b0 : decide (a0 ≤ 169) = true := decide_eq_true c43
                                            clear c43
                                            obtain rfl := Option.some.inj H
                                            go_wp2
                                            go_ret
                                            exact ⟨by first | rfl | (simp; done) | (simp [*]; done), by repeat (first | exact Drawn0.refl _ | apply Drawn0.step)⟩
                                          · rw [if_neg c43] at H
                                            have c43b0 : decide (a0 ≤ 169) = false := decide_eq_false c43
                                            clear c43
                                            obtain rfl := Option.some.inj H
                                            go_wp2
                                            go_ret
                                            exact ⟨by first | rfl | (simp; done) | (simp [*]; done), by repeat (first | exact Drawn0.refl _ | apply Drawn0.step)⟩
                                        · rw [if_neg c42] at H
                                          have c42b0 : decide (160 < a0) = false := decide_eq_false c42
                                          clear c42
                                          obtain rfl := Option.some.inj H
                                          go_wp2
                                          go_ret
                                          exact ⟨by first | rfl | (simp; done) | (simp [*]; done), by repeat (first | exact Drawn0.refl _ | apply Drawn0.step)⟩
                                    · rw [if_neg c40] at H
                                      have c40b0 : decide (128 < a0) = false := decide_eq_false c40
                                      clear c40
                                      by_cases c44 : a0 > 160
                                      · rw [if_pos c44] at H
                                        have c44b0 : decide (160 < a0) = true := decide_eq_true c44
                                        clear c44
                                        by_cases c45 : a0 ≤ 169
                                        · rw [if_pos c45] at H
                                          have c45b0 : decide (a0 ≤ 169) = true := decide_eq_true c45
                                          clear c45
                                          obtain rfl := Option.some.inj H
                                          go_wp2
                                          go_ret
                                          exact ⟨by first | rfl | (simp; done) | (simp [*]; done), by repeat (first | exact Drawn0.refl _ | apply Drawn0.step)⟩
                                        · rw [if_neg c45] at H
                                          have c45b0 : decide (a0 ≤ 169) = false := decide_eq_false c45
                                          clear c45
                                          obtain rfl := Option.some.inj H
                                          go_wp2
                                          go_ret
                                          exact ⟨by first | rfl | (simp; done) | (simp [*]; done), by repeat (first | exact Drawn0.refl _ | apply Drawn0.step)⟩
                                      · rw [if_neg c44] at H
                                        have c44b0 : decide (160 < a0) = false := decide_eq_false c44
                                        clear c44
                                        obtain rfl := Option.some.inj H
                                        go_wp2
                                        go_ret
                                        exact ⟨by first | rfl | (simp; done) | (simp [*]; done), by repeat (first | exact Drawn0.refl _ | apply Drawn0.step)⟩
                                · rw [if_neg c38] at H
                                  have c38b0 : decide (96 < a0) = false := decide_eq_false c38
                                  clear c38
                                  by_cases c46 : a0 > 128
                                  · rw [if_pos c46] at H
                                    have c46b0 : decide (128 < a0) = true := decide_eq_true c46
                                    clear c46
                                    by_cases c47 : a0 ≤ 155
                                    · rw [if_pos c47] at H
                                      have c47b0 : decide (a0 ≤ 155) = true := decide_eq_true c47
                                      clear c47
                                      obtain rfl := Option.some.inj H
                                      go_wp2
                                      go_ret
                                      exact ⟨by first | rfl | (simp; done) | (simp [*]; done), by repeat (first | exact Drawn0.refl _ | apply Drawn0.step)⟩
                                    · rw [if_neg c47] at H
                                      have c47b0 : decide (a0 ≤ 155) = false := decide_eq_false c47
                                      clear c47
                                      by_cases c48 : a0 > 160
                                      · rw [if_pos c48] at H
                                        have c48b0 : decide (160 < a0) = true := decide_eq_true c48
                                        clear c48
                                        by_cases c49 : a0 ≤ 169
                                        · rw [if_pos c49] at H
                                          have c49b0 : decide (a0 ≤ 169) = true := decide_eq_true c49
                                          clear c49
                                          obtain rfl := Option.some.inj H
                                          go_wp2
                                          go_ret
                                          exact ⟨by first | rfl | (simp; done) | (simp [*]; done), by repeat (first | exact Drawn0.refl _ | apply Drawn0.step)⟩
                                        · rw [if_neg c49] at H
                                          have c49b0 : decide (a0 ≤ 169) = false := decide_eq_false c49
                                          clear c49
                                          obtain rfl := Option.some.inj H
                                          go_wp2
                                          go_ret
                                          exact ⟨by first | rfl | (simp; done) | (simp [*]; done), by repeat (first | exact Drawn0.refl _ | apply Drawn0.step)⟩
                                      · rw [if_neg c48] at H
                                        have c48b0 : decide (160 < a0) = false := decide_eq_false c48
                                        clear c48
                                        obtain rfl := Option.some.inj H
                                        go_wp2
                                        go_ret
                                        exact ⟨by first | rfl | (simp; done) | (simp [*]; done), by repeat (first | exact Drawn0.refl _ | apply Drawn0.step)⟩
                                  · rw [if_neg c46] at H
                                    have c46b0 : decide (128 < a0) = false := decide_eq_false c46
                                    clear c46
                                    by_cases c50 : a0 > 160
                                    · rw [if_pos c50] at H
                                      have c50b0 : decide (160 < a0) = true := decide_eq_true c50
                                      clear c50
                                      by_cases c51 : a0 ≤ 169
                                      · rw [if_pos c51] at H
                                        have c51b0 : decide (a0 ≤ 169) = true := decide_eq_true c51
                                        clear c51
                                        obtain rfl := Option.some.inj H
                                        go_wp2
                                        go_ret
                                        exact ⟨by first | rfl | (simp; done) | (simp [*]; done), by repeat (first | exact Drawn0.refl _ | apply Drawn0.step)⟩
                                      · rw [if_neg c51] at H
                                        have c51b0 : decide (a0 ≤ 169) = false := decide_eq_false c51
                                        clear c51
                                        obtain rfl := Option.some.inj H
                                        go_wp2
                                        go_ret
                                        exact ⟨by first | rfl | (simp; done) | (simp [*]; done), by repeat (first | exact Drawn0.refl _ | apply Drawn0.step)⟩
                                    · rw [if_neg c50] at H
                                      have c50b0 : decide (160 < a0) = false := decide_eq_false c50
                                      clear c50
                                      obtain rfl := Option.some.inj H
                                      go_wp2
                                      go_ret
                                      exact ⟨by first | rfl | (simp; done) | (simp [*]; done), by repeat (first | exact Drawn0.refl _ | apply Drawn0.step)⟩

end Go.Proofs.Ytfhnffondamhdaa.PgoodCode
