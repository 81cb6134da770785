-- PRINTED BY print.sh 35421559b90ae4d0a3588c463048766b98c2df88dd9212a6774a882060cdf62d: not written by this session
import Derived.Test.YtchjmkofdiejhaaDoorPtake16x0
namespace Go.Proofs.YtchjmkofdiejhaaDoor.Ptake16
open Go.RowKit Go.Proofs.YtchjmkofdiejhaaDoorW.PrintWords Go.Proofs.YtchjmkofdiejhaaDoorW.PrintLast Go.Proofs.YtchjmkofdiejhaaDoorW.PrintMore
attribute [local go_sem] max2_int min2_int max_two min_two max_three min_three max_four min_four   -- for this text's walks alone
set_option linter.unusedVariables false
set_option linter.unusedSimpArgs false

/-! ### impl_take16: function 41 -/
mutual
def impl_take16.j0 : Nat → ByteArray → Int → Bool → Option (Int × Int)
  | 0, _, _, _ => none
  | k + 1, x0, x4, x22 => if x22 = true then (some (x4, 2)) else (if x4 ≥ 56320 then (impl_take16.j1 k x0 x4 true) else (impl_take16.j1 k x0 x4 (decide ((x0.size : Int) < 4))))
def impl_take16.j1 : Nat → ByteArray → Int → Bool → Option (Int × Int)
  | 0, _, _, _ => none
  | k + 1, x0, x4, x30 => if x30 = true then (some (0, 0)) else (if 2 < (x0.size : Int) then (if 3 < (x0.size : Int) then (if (Go.bits .or .i64 (wrap64 (bt x0 2)) (wrap64 ((wrap64 (bt x0 3)) * 256))) < 56320 then (some (0, 0)) else (if (Go.bits .or .i64 (wrap64 (bt x0 2)) (wrap64 ((wrap64 (bt x0 3)) * 256))) > 57343 then (some (0, 0)) else (some (wrap64 ((wrap64 ((wrap64 (65536 + (wrap64 ((wrap64 (x4 - 55296)) * 1024)))) + (Go.bits .or .i64 (wrap64 (bt x0 2)) (wrap64 ((wrap64 (bt x0 3)) * 256))))) - 56320), 4)))) else (none)) else (none))
end
def impl_take16.f (k : Nat) (a0 : ByteArray) : Option (Int × Int) := if (a0.size : Int) < 2 then (some (0, 0)) else (if 0 < (a0.size : Int) then (if 1 < (a0.size : Int) then (if (Go.bits .or .i64 (wrap64 (bt a0 0)) (wrap64 ((wrap64 (bt a0 1)) * 256))) < 55296 then (impl_take16.j0 k a0 (Go.bits .or .i64 (wrap64 (bt a0 0)) (wrap64 ((wrap64 (bt a0 1)) * 256))) true) else (impl_take16.j0 k a0 (Go.bits .or .i64 (wrap64 (bt a0 0)) (wrap64 ((wrap64 (bt a0 1)) * 256))) (decide ((Go.bits .or .i64 (wrap64 (bt a0 0)) (wrap64 ((wrap64 (bt a0 1)) * 256))) > 57343)))) else (none)) else (none))
theorem impl_take16.mono_l : ∀ k, (∀ y0 y1 y2, LeO (impl_take16.j0 k y0 y1 y2) (impl_take16.j0 (k + 1) y0 y1 y2)) ∧ (∀ y0 y1 y2, LeO (impl_take16.j1 k y0 y1 y2) (impl_take16.j1 (k + 1) y0 y1 y2))
  | 0 => ⟨fun _ _ _ r h => by simp [impl_take16.j0] at h, fun _ _ _ r h => by simp [impl_take16.j1] at h⟩
  | k + 1 => by
    obtain ⟨ih0, ih1⟩ := impl_take16.mono_l k
    refine ⟨?_, ?_⟩
    · intro y0 y1 y2
      unfold impl_take16.j0
      repeat' first
      | (with_reducible exact ih0 _ _ _)
      | (with_reducible exact ih1 _ _ _)
      | (with_reducible exact LeO.refl _)
      | (with_reducible exact LeO.none _)
      | (with_reducible refine LeO.ite ?_ ?_)
      | (with_reducible refine LeO.bind ?_ (fun _ => ?_))
      | exact ih0 _ _ _
      | exact ih1 _ _ _
      | exact LeO.none _
      | refine LeO.ite ?_ ?_
      | refine LeO.bind ?_ (fun _ => ?_)
    · intro y0 y1 y2
      unfold impl_take16.j1
      repeat' first
      | (with_reducible exact ih0 _ _ _)
      | (with_reducible exact ih1 _ _ _)
      | (with_reducible exact LeO.refl _)
      | (with_reducible exact LeO.none _)
      | (with_reducible refine LeO.ite ?_ ?_)
      | (with_reducible refine LeO.bind ?_ (fun _ => ?_))
      | exact ih0 _ _ _
      | exact ih1 _ _ _
      | exact LeO.none _
      | refine LeO.ite ?_ ?_
      | refine LeO.bind ?_ (fun _ => ?_)
theorem impl_take16.mono : ∀ a0 k, LeO (impl_take16.f k a0) (impl_take16.f (k + 1) a0) := by
  intro a0 k
  obtain ⟨ih0, ih1⟩ := impl_take16.mono_l k
  unfold impl_take16.f
  repeat' first
      | (with_reducible exact ih0 _ _ _)
      | (with_reducible exact ih1 _ _ _)
      | (with_reducible exact LeO.refl _)
      | (with_reducible exact LeO.none _)
      | (with_reducible refine LeO.ite ?_ ?_)
      | (with_reducible refine LeO.bind ?_ (fun _ => ?_))
      | exact ih0 _ _ _
      | exact ih1 _ _ _
      | exact LeO.none _
      | refine LeO.ite ?_ ?_
      | refine LeO.bind ?_ (fun _ => ?_)
set_option maxHeartbeats 8000000 in
set_option maxRecDepth 100000 in
theorem impl_take16.calls (k : Nat) (a0 : ByteArray) (r1 : Int) (r2 : Int) (w : World) (h : impl_take16.f k a0 = some (r1, r2)) :
    Calls Tryd.prog 41 #[.string a0] w fun e w' => e = .returned (.tuple #[.int .i64 r1, .int .i64 r2]) ∧ Drawn0 w w' := by
  have H : (if (a0.size : Int) < 2 then (some (0, 0)) else (if 0 < (a0.size : Int) then (if 1 < (a0.size : Int) then (if (Go.bits .or .i64 (wrap64 (bt a0 0)) (wrap64 ((wrap64 (bt a0 1)) * 256))) < 55296 then (impl_take16.j0 k a0 (Go.bits .or .i64 (wrap64 (bt a0 0)) (wrap64 ((wrap64 (bt a0 1)) * 256))) true) else (impl_take16.j0 k a0 (Go.bits .or .i64 (wrap64 (bt a0 0)) (wrap64 ((wrap64 (bt a0 1)) * 256))) (decide ((Go.bits .or .i64 (wrap64 (bt a0 0)) (wrap64 ((wrap64 (bt a0 1)) * 256))) > 57343)))) else (none)) else (none))) = some (r1, r2) := h
  clear h
  by_cases c2 : (a0.size : Int) < 2
  · rw [if_pos c2] at H
    have c2b0 : decide ((a0.size : Int) < 2) = true := decide_eq_true c2
    have c2b1 : decide (a0.size < 2) = true := decide_eq_true (by omega)
    clear c2
    simp only [Option.some.injEq, Prod.mk.injEq] at H
    obtain ⟨rfl, rfl⟩ := H
    go_enter Tryd.func41, Tryd.ntmps41
    go_wp2
    repeat (go_quiet (fail); try go_wp2)
    go_ret2
    exact ⟨by first | rfl | (simp; done) | (simp [*]; done), by repeat (first | exact Drawn0.refl _ | apply Drawn0.step)⟩
  · rw [if_neg c2] at H
    have c2b0 : decide ((a0.size : Int) < 2) = false := decide_eq_false c2
    have c2b1 : decide (a0.size < 2) = false := decide_eq_false (by omega)
    clear c2
    by_cases c3 : 0 < (a0.size : Int)
    · rw [if_pos c3] at H
      have c3b0 : decide (0 < (a0.size : Int)) = true := decide_eq_true c3
      have c3b1 : decide (0 < a0.size) = true := decide_eq_true (by omega)
      clear c3
      by_cases c5 : 1 < (a0.size : Int)
      · rw [if_pos c5] at H
        have c5b0 : decide (1 < (a0.size : Int)) = true := decide_eq_true c5
        have c5b1 : decide (1 < a0.size) = true := decide_eq_true (by omega)
        clear c5
        have HC7 := Aside0.mk H
        clear H
        have p4 : 0 ≤ (0 : Int) := (by omega)
        have q4 : 0 < a0.size := (by have : (0 : Int) < (a0.size : Int) := of_decide_eq_true (by first | (with_reducible assumption) | assumption); omega)
        have hx4 : ∀ h : 0 < a0.size, ((a0[0]'h).toNat : Int) = bt a0 0 := bt_at a0 0
        clear p4
        have qi4 : (0 < (a0.size : Int)) = True := eq_true (of_decide_eq_true (by first | (with_reducible assumption) | assumption))
        replace q4 := eq_true q4
        have p6 : 0 ≤ (1 : Int) := (by omega)
        have q6 : 1 < a0.size := (by have : (1 : Int) < (a0.size : Int) := of_decide_eq_true (by first | (with_reducible assumption) | assumption); omega)
        have hx6 : ∀ h : 1 < a0.size, ((a0[1]'h).toNat : Int) = bt a0 1 := bt_at a0 1
        clear p6
        have qi6 : (1 < (a0.size : Int)) = True := eq_true (of_decide_eq_true (by first | (with_reducible assumption) | assumption))
        replace q6 := eq_true q6
        go_enter Tryd.func41, Tryd.ntmps41
        go_upto_region 4 with (fail)
        repeat (go_quiet (fail); go_upto_region 4 with (fail))
        go_cut [22] (fun v22 wc => ∃ (kq : Nat) (x22_6 : Bool), v22 = .bool x22_6 ∧ Aside0 (impl_take16.j0 kq a0 (Go.bits .or .i64 (wrap64 (bt a0 0)) (wrap64 ((wrap64 (bt a0 1)) * 256))) x22_6 = some (r1, r2)) ∧ Aside0 (kq ≤ k) ∧ Drawn0 w wc)
        case first =>
          have H := HC7.out
          clear HC7
          by_cases c8 : (Go.bits .or .i64 (wrap64 (bt a0 0)) (wrap64 ((wrap64 (bt a0 1)) * 256))) < 55296
          · rw [if_pos c8] at H
            have c8b0 : decide ((Go.bits .or .i64 (wrap64 (bt a0 0)) (wrap64 ((wrap64 (bt a0 1)) * 256))) < 55296) = true := decide_eq_true c8
            clear c8
            (first | rw [c8b0] | (simp only [i64_w, i32_w]; rw [c8b0]) | skip)
            have H' := Aside0.mk H
            clear H
            go_wp2
            repeat (go_quiet (fail); try go_wp2)
            go_meet
            case rel => exact ⟨_, (true), (by first | rfl | (simp; done) | (simp [*]; done)), H', ⟨by first | omega | exact Nat.le_refl _⟩, by repeat (first | exact Drawn0.refl _ | apply Drawn0.step)⟩
          · rw [if_neg c8] at H
            have c8b0 : decide ((Go.bits .or .i64 (wrap64 (bt a0 0)) (wrap64 ((wrap64 (bt a0 1)) * 256))) < 55296) = false := decide_eq_false c8
            clear c8
            (first | rw [c8b0] | (simp only [i64_w, i32_w]; rw [c8b0]) | skip)
            have H' := Aside0.mk H
            clear H
            go_wp2
            repeat (go_quiet (fail); try go_wp2)
            go_meet
            case rel => exact ⟨_, (decide ((Go.bits .or .i64 (wrap64 (bt a0 0)) (wrap64 ((wrap64 (bt a0 1)) * 256))) > 57343)), (by first | rfl | (simp; done) | (simp [*]; done)), H', ⟨by first | omega | exact Nat.le_refl _⟩, by repeat (first | exact Drawn0.refl _ | apply Drawn0.step)⟩
        case rest =>
          clear HC7
          try clear c2
          try clear c2b0
          try clear c2b1
          try clear p2
          try clear c3
          try clear c3b0
          try clear c3b1
          try clear c4
          try clear p4
          try clear q4
          try clear hx4
          try clear qi4
          try clear c5
          try clear c5b0
          try clear c5b1
          try clear p6
          try clear q6
          try clear hx6
          try clear qi6
          try clear c8
          try clear c8b0
          try clear p4
          try clear p6
          try clear q4
          try clear q6
          obtain ⟨kq, x22_6, rfl, HA, HJ6, ⟨mc6, rfl⟩⟩ := hcut
          cases kq with
          | zero => exact absurd HA.out (by simp [impl_take16.j0])
          | succ kj6 =>
            have H := HA.out
            clear HA
            simp only [impl_take16.j0] at H
            by_cases c9 : x22_6 = true
            · subst c9
              have H1 : (some ((Go.bits .or .i64 (wrap64 (bt a0 0)) (wrap64 ((wrap64 (bt a0 1)) * 256))), 2)) = some (r1, r2) := by rw [if_pos rfl] at H; exact H
              clear H
              have H := H1
              clear H1
              simp only [Option.some.injEq, Prod.mk.injEq] at H
              obtain ⟨rfl, rfl⟩ := H
              go_wp2
              repeat (go_quiet (fail); try go_wp2)
              go_ret2
              exact ⟨by first | rfl | (simp; done) | (simp [*]; done), by repeat (first | exact Drawn0.refl _ | apply Drawn0.step)⟩
            · replace c9 := Bool.eq_false_iff.mpr c9
              subst c9
              have H1 : (if (Go.bits .or .i64 (wrap64 (bt a0 0)) (wrap64 ((wrap64 (bt a0 1)) * 256))) ≥ 56320 then (impl_take16.j1 kj6 a0 (Go.bits .or .i64 (wrap64 (bt a0 0)) (wrap64 ((wrap64 (bt a0 1)) * 256))) true) else (impl_take16.j1 kj6 a0 (Go.bits .or .i64 (wrap64 (bt a0 0)) (wrap64 ((wrap64 (bt a0 1)) * 256))) (decide ((a0.size : Int) < 4)))) = some (r1, r2) := by rw [if_neg (show ¬ (false = true) by decide)] at H; exact H
              clear H
              have H := H1
              clear H1
              have HC10 := Aside0.mk H
              clear H
              go_upto_region 6 with (fail)
              repeat (go_quiet (fail); go_upto_region 6 with (fail))
              go_cut [30] (fun v30 wc => ∃ (kq : Nat) (x30_9 : Bool), v30 = .bool x30_9 ∧ Aside0 (impl_take16.j1 kq a0 (Go.bits .or .i64 (wrap64 (bt a0 0)) (wrap64 ((wrap64 (bt a0 1)) * 256))) x30_9 = some (r1, r2)) ∧ Aside0 (kq ≤ kj6) ∧ Drawn0 w wc)
              case first =>
                have H := HC10.out
                clear HC10
                by_cases c11 : (Go.bits .or .i64 (wrap64 (bt a0 0)) (wrap64 ((wrap64 (bt a0 1)) * 256))) ≥ 56320
                · rw [if_pos c11] at H
                  have c11b0 : decide (56320 ≤ (Go.bits .or .i64 (wrap64 (bt a0 0)) (wrap64 ((wrap64 (bt a0 1)) * 256)))) = true := decide_eq_true c11
                  clear c11
                  (first | rw [c11b0] | (simp only [i64_w, i32_w]; rw [c11b0]) | skip)
                  have H' := Aside0.mk H
                  clear H
                  go_wp2
                  repeat (go_quiet (fail); try go_wp2)
                  go_meet
                  case rel => exact ⟨_, (true), (by first | rfl | (simp; done) | (simp [*]; done)), H', ⟨by have := HJ6.out; first | omega | exact Nat.le_refl _⟩, by repeat (first | exact Drawn0.refl _ | apply Drawn0.step)⟩
                · rw [if_neg c11] at H
                  have c11b0 : decide (56320 ≤ (Go.bits .or .i64 (wrap64 (bt a0 0)) (wrap64 ((wrap64 (bt a0 1)) * 256)))) = false := decide_eq_false c11
                  clear c11
                  (first | rw [c11b0] | (simp only [i64_w, i32_w]; rw [c11b0]) | skip)
                  have H' := Aside0.mk H
                  clear H
                  go_wp2
                  repeat (go_quiet (fail); try go_wp2)
                  go_meet
                  case rel => exact ⟨_, (decide ((a0.size : Int) < 4)), (by first | rfl | (simp; done) | (simp [*]; done)), H', ⟨by have := HJ6.out; first | omega | exact Nat.le_refl _⟩, by repeat (first | exact Drawn0.refl _ | apply Drawn0.step)⟩
              case rest =>
                clear HC10
                try clear c1
                try clear c2
                try clear c2b0
                try clear c2b1
                try clear p2
                try clear c3
                try clear c3b0
                try clear c3b1
                try clear c4
                try clear p4
                try clear q4
                try clear hx4
                try clear qi4
                try clear c5
                try clear c5b0
                try clear c5b1
                try clear c6
                try clear p6
                try clear q6
                try clear hx6
                try clear qi6
                try clear c8
                try clear c8b0
                try clear c9
                try clear c11
                try clear c11b0
                try clear p2
                try clear p4
                try clear p6
                try clear q4
                try clear q6
                obtain ⟨kq, x30_9, rfl, HA, HJ9, ⟨mc9, rfl⟩⟩ := hcut
                cases kq with
                | zero => exact absurd HA.out (by simp [impl_take16.j1])
                | succ kj9 =>
                  have H := HA.out
                  clear HA
                  simp only [impl_take16.j1] at H
                  by_cases c12 : x30_9 = true
                  · subst c12
                    have H1 : (some (0, 0)) = some (r1, r2) := by rw [if_pos rfl] at H; exact H
                    clear H
                    have H := H1
                    clear H1
                    simp only [Option.some.injEq, Prod.mk.injEq] at H
                    obtain ⟨rfl, rfl⟩ := H
                    go_wp2
                    repeat (go_quiet (fail); try go_wp2)
                    go_ret2
                    exact ⟨by first | rfl | (simp; done) | (simp [*]; done), by repeat (first | exact Drawn0.refl _ | apply Drawn0.step)⟩
                  · replace c12 := Bool.eq_false_iff.mpr c12
                    subst c12
                    have H1 : (if 2 < (a0.size : Int) then (if 3 < (a0.size : Int) then (if (Go.bits .or .i64 (wrap64 (bt a0 2)) (wrap64 ((wrap64 (bt a0 3)) * 256))) < 56320 then (some (0, 0)) else (if (Go.bits .or .i64 (wrap64 (bt a0 2)) (wrap64 ((wrap64 (bt a0 3)) * 256))) > 57343 then (some (0, 0)) else (some (wrap64 ((wrap64 ((wrap64 (65536 + (wrap64 ((wrap64 ((Go.bits .or .i64 (wrap64 (bt a0 0)) (wrap64 ((wrap64 (bt a0 1)) * 256))) - 55296)) * 1024)))) + (Go.bits .or .i64 (wrap64 (bt a0 2)) (wrap64 ((wrap64 (bt a0 3)) * 256))))) - 56320), 4)))) else (none)) else (none)) = some (r1, r2) := by rw [if_neg (show ¬ (false = true) by decide)] at H; exact H
                    clear H
                    have H := H1
                    clear H1
                    by_cases c13 : 2 < (a0.size : Int)
                    · rw [if_pos c13] at H
                      have c13b0 : decide (2 < (a0.size : Int)) = true := decide_eq_true c13
                      have c13b1 : decide (2 < a0.size) = true := decide_eq_true (by omega)
                      clear c13
                      by_cases c15 : 3 < (a0.size : Int)
                      · rw [if_pos c15] at H
                        have c15b0 : decide (3 < (a0.size : Int)) = true := decide_eq_true c15
                        have c15b1 : decide (3 < a0.size) = true := decide_eq_true (by omega)
                        clear c15
                        by_cases c17 : (Go.bits .or .i64 (wrap64 (bt a0 2)) (wrap64 ((wrap64 (bt a0 3)) * 256))) < 56320
                        · rw [if_pos c17] at H
                          have c17b0 : decide ((Go.bits .or .i64 (wrap64 (bt a0 2)) (wrap64 ((wrap64 (bt a0 3)) * 256))) < 56320) = true := decide_eq_true c17
                          clear c17
                          simp only [Option.some.injEq, Prod.mk.injEq] at H
                          obtain ⟨rfl, rfl⟩ := H
                          have p14 : 0 ≤ (2 : Int) := (by omega)
                          have q14 : 2 < a0.size := (by have : (2 : Int) < (a0.size : Int) := of_decide_eq_true (by first | (with_reducible assumption) | assumption); omega)
                          have hx14 : ∀ h : 2 < a0.size, ((a0[2]'h).toNat : Int) = bt a0 2 := bt_at a0 2
                          clear p14
                          have qi14 : (2 < (a0.size : Int)) = True := eq_true (of_decide_eq_true (by first | (with_reducible assumption) | assumption))
                          replace q14 := eq_true q14
                          have p16 : 0 ≤ (3 : Int) := (by omega)
                          have q16 : 3 < a0.size := (by have : (3 : Int) < (a0.size : Int) := of_decide_eq_true (by first | (with_reducible assumption) | assumption); omega)
                          have hx16 : ∀ h : 3 < a0.size, ((a0[3]'h).toNat : Int) = bt a0 3 := bt_at a0 3
                          clear p16
                          have qi16 : (3 < (a0.size : Int)) = True := eq_true (of_decide_eq_true (by first | (with_reducible assumption) | assumption))
                          replace q16 := eq_true q16
                          go_wp2
                          repeat (go_quiet (fail); try go_wp2)
                          go_ret2
                          exact ⟨by first | rfl | (simp; done) | (simp [*]; done), by repeat (first | exact Drawn0.refl _ | apply Drawn0.step)⟩
                        · rw [if_neg c17] at H
                          have c17b0 : decide ((Go.bits .or .i64 (wrap64 (bt a0 2)) (wrap64 ((wrap64 (bt a0 3)) * 256))) < 56320) = false := decide_eq_false c17
                          clear c17
                          by_cases c18 : (Go.bits .or .i64 (wrap64 (bt a0 2)) (wrap64 ((wrap64 (bt a0 3)) * 256))) > 57343
                          · rw [if_pos c18] at H
                            have c18b0 : decide (57343 < (Go.bits .or .i64 (wrap64 (bt a0 2)) (wrap64 ((wrap64 (bt a0 3)) * 256)))) = true := decide_eq_true c18
                            clear c18
                            simp only [Option.some.injEq, Prod.mk.injEq] at H
                            obtain ⟨rfl, rfl⟩ := H
                            have p14 : 0 ≤ (2 : Int) := (by omega)
                            have q14 : 2 < a0.size := (by have : (2 : Int) < (a0.size : Int) := of_decide_eq_true (by first | (with_reducible assumption) | assumption); omega)
                            have hx14 : ∀ h : 2 < a0.size, ((a0[2]'h).toNat : Int) = bt a0 2 := bt_at a0 2
                            clear p14
                            have qi14 : (2 < (a0.size : Int)) = True := eq_true (of_decide_eq_true (by first | (with_reducible assumption) | assumption))
                            replace q14 := eq_true q14
                            have p16 : 0 ≤ (3 : Int) := (by omega)
                            have q16 : 3 < a0.size := (by have : (3 : Int) < (a0.size : Int) := of_decide_eq_true (by first | (with_reducible assumption) | assumption); omega)
                            have hx16 : ∀ h : 3 < a0.size, ((a0[3]'h).toNat : Int) = bt a0 3 := bt_at a0 3
                            clear p16
                            have qi16 : (3 < (a0.size : Int)) = True := eq_true (of_decide_eq_true (by first | (with_reducible assumption) | assumption))
                            replace q16 := eq_true q16
                            go_wp2
                            repeat (go_quiet (fail); try go_wp2)
                            go_ret2
                            exact ⟨by first | rfl | (simp; done) | (simp [*]; done), by repeat (first | exact Drawn0.refl _ | apply Drawn0.step)⟩
                          · rw [if_neg c18] at H
                            have c18b0 : decide (57343 < (Go.bits .or .i64 (wrap64 (bt a0 2)) (wrap64 ((wrap64 (bt a0 3)) * 256)))) = false := decide_eq_false c18
                            clear c18
                            simp only [Option.some.injEq, Prod.mk.injEq] at H
                            obtain ⟨rfl, rfl⟩ := H
                            have p14 : 0 ≤ (2 : Int) := (by omega)
                            have q14 : 2 < a0.size := (by have : (2 : Int) < (a0.size : Int) := of_decide_eq_true (by first | (with_reducible assumption) | assumption); omega)
                            have hx14 : ∀ h : 2 < a0.size, ((a0[2]'h).toNat : Int) = bt a0 2 := bt_at a0 2
                            clear p14
                            have qi14 : (2 < (a0.size : Int)) = True := eq_true (of_decide_eq_true (by first | (with_reducible assumption) | assumption))
                            replace q14 := eq_true q14
                            have p16 : 0 ≤ (3 : Int) := (by omega)
                            have q16 : 3 < a0.size := (by have : (3 : Int) < (a0.size : Int) := of_decide_eq_true (by first | (with_reducible assumption) | assumption); omega)
                            have hx16 : ∀ h : 3 < a0.size, ((a0[3]'h).toNat : Int) = bt a0 3 := bt_at a0 3
                            clear p16
                            have qi16 : (3 < (a0.size : Int)) = True := eq_true (of_decide_eq_true (by first | (with_reducible assumption) | assumption))
                            replace q16 := eq_true q16
                            go_wp2
                            repeat (go_quiet (fail); try go_wp2)
                            go_ret2
                            exact ⟨by first | rfl | (simp; done) | (simp [*]; done), by repeat (first | exact Drawn0.refl _ | apply Drawn0.step)⟩
                      · rw [if_neg c15] at H
                        exact absurd H (by simp)
                    · rw [if_neg c13] at H
                      exact absurd H (by simp)
      · rw [if_neg c5] at H
        exact absurd H (by simp)
    · rw [if_neg c3] at H
      exact absurd H (by simp)

end Go.Proofs.YtchjmkofdiejhaaDoor.Ptake16
