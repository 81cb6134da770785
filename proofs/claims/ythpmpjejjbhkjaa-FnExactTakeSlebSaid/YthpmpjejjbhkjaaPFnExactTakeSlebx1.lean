-- PRINTED BY print.sh 35421559b90ae4d0a3588c463048766b98c2df88dd9212a6774a882060cdf62d: not written by this session
import Derived.Test.YthpmpjejjbhkjaaPFnExactTakeSlebx0
namespace Go.Proofs.Ythpmpjejjbhkjaa.PFnExactTakeSleb
open Go.RowKit Go.Proofs.YthpmpjejjbhkjaaW.PrintWords Go.Proofs.YthpmpjejjbhkjaaW.PrintLast Go.Proofs.YthpmpjejjbhkjaaW.PrintMore
attribute [local go_sem] max2_int min2_int max_two min_two max_three min_three max_four min_four   -- for this text's walks alone
set_option linter.unusedVariables false
set_option linter.unusedSimpArgs false

/-! ### spec_l1In: function 53 -/
def spec_l1In.f (a0 : Int) (a1 : Int) (a2 : Int) : Option (Bool) := if a0 ≥ a1 then (some (decide (a0 ≤ a2))) else (some false)
set_option maxHeartbeats 8000000 in
set_option maxRecDepth 100000 in
theorem spec_l1In.calls (a0 : Int) (a1 : Int) (a2 : Int) (r : Bool) (w : World) (h : spec_l1In.f a0 a1 a2 = some r) :
    Calls Try.prog 53 #[.int .i64 a0, .int .i64 a1, .int .i64 a2] w fun e w' => e = .returned (.bool r) ∧ Drawn0 w w' := by
  have H : (if a0 ≥ a1 then (some (decide (a0 ≤ a2))) else (some false)) = some r := h
  clear h
  by_cases c4 : a0 ≥ a1
  · rw [if_pos c4] at H
    have c4b0 : decide (a1 ≤ a0) = true := decide_eq_true c4
    clear c4
    obtain rfl := Option.some.inj H
    go_enter Try.func53, Try.ntmps53
    go_wp2
    go_ret
    exact ⟨by first | rfl | (simp; done) | (simp [*]; done), by repeat (first | exact Drawn0.refl _ | apply Drawn0.step)⟩
  · rw [if_neg c4] at H
    have c4b0 : decide (a1 ≤ a0) = false := decide_eq_false c4
    clear c4
    obtain rfl := Option.some.inj H
    go_enter Try.func53, Try.ntmps53
    go_wp2
    go_ret
    exact ⟨by first | rfl | (simp; done) | (simp [*]; done), by repeat (first | exact Drawn0.refl _ | apply Drawn0.step)⟩

/-! ### spec_l1TakeS: function 54 -/
mutual
def spec_l1TakeS.l0 : Nat → ByteArray → Int → Int → Int → Int → Option (Int × Int)
  | 0, _, _, _, _, _ => none
  | k + 1, x0, x1, x6, x7, x8 => if x8 < x6 then (spec_l1TakeS.j1 k x0 x1 x6 x7 x8 (decide (x8 < (x0.size : Int)))) else (spec_l1TakeS.j1 k x0 x1 x6 x7 x8 false)
def spec_l1TakeS.j1 : Nat → ByteArray → Int → Int → Int → Int → Bool → Option (Int × Int)
  | 0, _, _, _, _, _, _ => none
  | k + 1, x0, x1, x6, x7, x8, x24 => if x24 = true then (if 0 ≤ x8 then (if x8 < (x0.size : Int) then (if 0 ≤ (IntKind.u64.wrap (wrap64 (7 * x8))) then (if (bt x0 x8) ≥ 128 then (spec_l1TakeS.l0 k x0 x1 x6 (Go.bits .or .u64 x7 (shl .u64 (IntKind.u64.wrap (Go.bits .and .u8 (bt x0 x8) 127)) (IntKind.u64.wrap (wrap64 (7 * x8))))) (wrap64 (x8 + 1))) else (if (wrap64 (x1 - (wrap64 (7 * x8)))) < 7 then (if 0 ≤ (IntKind.u64.wrap (wrap64 ((wrap64 (x1 - (wrap64 (7 * x8)))) - 1))) then (if (shr .u64 (IntKind.u64.wrap (Go.bits .and .u8 (bt x0 x8) 127)) (IntKind.u64.wrap (wrap64 ((wrap64 (x1 - (wrap64 (7 * x8)))) - 1)))) = 0 then (spec_l1TakeS.j2 k (Go.bits .or .u64 x7 (shl .u64 (IntKind.u64.wrap (Go.bits .and .u8 (bt x0 x8) 127)) (IntKind.u64.wrap (wrap64 (7 * x8))))) x8 (IntKind.u64.wrap (Go.bits .and .u8 (bt x0 x8) 127)) false) else (spec_l1TakeS.j2 k (Go.bits .or .u64 x7 (shl .u64 (IntKind.u64.wrap (Go.bits .and .u8 (bt x0 x8) 127)) (IntKind.u64.wrap (wrap64 (7 * x8))))) x8 (IntKind.u64.wrap (Go.bits .and .u8 (bt x0 x8) 127)) ((shr .u64 (IntKind.u64.wrap (Go.bits .and .u8 (bt x0 x8) 127)) (IntKind.u64.wrap (wrap64 ((wrap64 (x1 - (wrap64 (7 * x8)))) - 1)))) != (shr .u64 127 (IntKind.u64.wrap (wrap64 ((wrap64 (x1 - (wrap64 (7 * x8)))) - 1))))))) else (none)) else (if (wrap64 (7 * (wrap64 (x8 + 1)))) < 64 then (if (Go.bits .and .u64 (IntKind.u64.wrap (Go.bits .and .u8 (bt x0 x8) 127)) 64) = 0 then (some (wrap64 (Go.bits .or .u64 x7 (shl .u64 (IntKind.u64.wrap (Go.bits .and .u8 (bt x0 x8) 127)) (IntKind.u64.wrap (wrap64 (7 * x8))))), wrap64 (x8 + 1))) else (if 0 ≤ (IntKind.u64.wrap (wrap64 (7 * (wrap64 (x8 + 1))))) then (some (wrap64 (Go.bits .or .u64 (Go.bits .or .u64 x7 (shl .u64 (IntKind.u64.wrap (Go.bits .and .u8 (bt x0 x8) 127)) (IntKind.u64.wrap (wrap64 (7 * x8))))) (shl .u64 18446744073709551615 (IntKind.u64.wrap (wrap64 (7 * (wrap64 (x8 + 1))))))), wrap64 (x8 + 1))) else (none))) else (some (wrap64 (Go.bits .or .u64 x7 (shl .u64 (IntKind.u64.wrap (Go.bits .and .u8 (bt x0 x8) 127)) (IntKind.u64.wrap (wrap64 (7 * x8))))), wrap64 (x8 + 1)))))) else (none)) else (none)) else (none)) else (some (0, 0))
def spec_l1TakeS.j2 : Nat → Int → Int → Int → Bool → Option (Int × Int)
  | 0, _, _, _, _ => none
  | k + 1, x7, x8, x9, x63 => if x63 = true then (some (0, 0)) else (if (wrap64 (7 * (wrap64 (x8 + 1)))) < 64 then (if (Go.bits .and .u64 x9 64) = 0 then (some (wrap64 (x7), wrap64 (x8 + 1))) else (if 0 ≤ (IntKind.u64.wrap (wrap64 (7 * (wrap64 (x8 + 1))))) then (some (wrap64 (Go.bits .or .u64 x7 (shl .u64 18446744073709551615 (IntKind.u64.wrap (wrap64 (7 * (wrap64 (x8 + 1))))))), wrap64 (x8 + 1))) else (none))) else (some (wrap64 (x7), wrap64 (x8 + 1))))
end
def spec_l1TakeS.f (k : Nat) (a0 : ByteArray) (a1 : Int) : Option (Int × Int) := spec_l1TakeS.l0 k a0 a1 (wrap64 (Int.tdiv (wrap64 (a1 + 6)) 7)) 0 0
theorem spec_l1TakeS.mono_l : ∀ k, (∀ y0 y1 y2 y3 y4, LeO (spec_l1TakeS.l0 k y0 y1 y2 y3 y4) (spec_l1TakeS.l0 (k + 1) y0 y1 y2 y3 y4)) ∧ (∀ y0 y1 y2 y3 y4 y5, LeO (spec_l1TakeS.j1 k y0 y1 y2 y3 y4 y5) (spec_l1TakeS.j1 (k + 1) y0 y1 y2 y3 y4 y5)) ∧ (∀ y0 y1 y2 y3, LeO (spec_l1TakeS.j2 k y0 y1 y2 y3) (spec_l1TakeS.j2 (k + 1) y0 y1 y2 y3))
  | 0 => ⟨fun _ _ _ _ _ r h => by simp [spec_l1TakeS.l0] at h, fun _ _ _ _ _ _ r h => by simp [spec_l1TakeS.j1] at h, fun _ _ _ _ r h => by simp [spec_l1TakeS.j2] at h⟩
  | k + 1 => by
    obtain ⟨ih0, ih1, ih2⟩ := spec_l1TakeS.mono_l k
    refine ⟨?_, ?_, ?_⟩
    · intro y0 y1 y2 y3 y4
      unfold spec_l1TakeS.l0
      repeat' first
      | (with_reducible exact ih0 _ _ _ _ _)
      | (with_reducible exact ih1 _ _ _ _ _ _)
      | (with_reducible exact ih2 _ _ _ _)
      | (with_reducible exact LeO.refl _)
      | (with_reducible exact LeO.none _)
      | (with_reducible refine LeO.ite ?_ ?_)
      | (with_reducible refine LeO.bind ?_ (fun _ => ?_))
      | exact ih0 _ _ _ _ _
      | exact ih1 _ _ _ _ _ _
      | exact ih2 _ _ _ _
      | exact LeO.none _
      | refine LeO.ite ?_ ?_
      | refine LeO.bind ?_ (fun _ => ?_)
    · intro y0 y1 y2 y3 y4 y5
      unfold spec_l1TakeS.j1
      repeat' first
      | (with_reducible exact ih0 _ _ _ _ _)
      | (with_reducible exact ih1 _ _ _ _ _ _)
      | (with_reducible exact ih2 _ _ _ _)
      | (with_reducible exact LeO.refl _)
      | (with_reducible exact LeO.none _)
      | (with_reducible refine LeO.ite ?_ ?_)
      | (with_reducible refine LeO.bind ?_ (fun _ => ?_))
      | exact ih0 _ _ _ _ _
      | exact ih1 _ _ _ _ _ _
      | exact ih2 _ _ _ _
      | exact LeO.none _
      | refine LeO.ite ?_ ?_
      | refine LeO.bind ?_ (fun _ => ?_)
    · intro y0 y1 y2 y3
      unfold spec_l1TakeS.j2
      repeat' first
      | (with_reducible exact ih0 _ _ _ _ _)
      | (with_reducible exact ih1 _ _ _ _ _ _)
      | (with_reducible exact ih2 _ _ _ _)
      | (with_reducible exact LeO.refl _)
      | (with_reducible exact LeO.none _)
      | (with_reducible refine LeO.ite ?_ ?_)
      | (with_reducible refine LeO.bind ?_ (fun _ => ?_))
      | exact ih0 _ _ _ _ _
      | exact ih1 _ _ _ _ _ _
      | exact ih2 _ _ _ _
      | exact LeO.none _
      | refine LeO.ite ?_ ?_
      | refine LeO.bind ?_ (fun _ => ?_)
theorem spec_l1TakeS.mono : ∀ a0 a1 k, LeO (spec_l1TakeS.f k a0 a1) (spec_l1TakeS.f (k + 1) a0 a1) := by
  intro a0 a1 k
  obtain ⟨ih0, ih1, ih2⟩ := spec_l1TakeS.mono_l k
  unfold spec_l1TakeS.f
  repeat' first
      | (with_reducible exact ih0 _ _ _ _ _)
      | (with_reducible exact ih1 _ _ _ _ _ _)
      | (with_reducible exact ih2 _ _ _ _)
      | (with_reducible exact LeO.refl _)
      | (with_reducible exact LeO.none _)
      | (with_reducible refine LeO.ite ?_ ?_)
      | (with_reducible refine LeO.bind ?_ (fun _ => ?_))
      | exact ih0 _ _ _ _ _
      | exact ih1 _ _ _ _ _ _
      | exact ih2 _ _ _ _
      | exact LeO.none _
      | refine LeO.ite ?_ ?_
      | refine LeO.bind ?_ (fun _ => ?_)
set_option maxHeartbeats 8000000 in
set_option maxRecDepth 100000 in
theorem spec_l1TakeS.calls (k : Nat) (a0 : ByteArray) (a1 : Int) (r1 : Int) (r2 : Int) (w : World) (h : spec_l1TakeS.f k a0 a1 = some (r1, r2)) :
    Calls Try.prog 54 #[.string a0, .int .i64 a1] w fun e w' => e = .returned (.tuple #[.int .i64 r1, .int .i64 r2]) ∧ Drawn0 w w' := by
  have H : (spec_l1TakeS.l0 k a0 a1 (wrap64 (Int.tdiv (wrap64 (a1 + 6)) 7)) 0 0) = some (r1, r2) := h
  clear h
  have H' := Aside0.mk H
  clear H
  go_enter Try.func54, Try.ntmps54
  go_wp2
  go_loopg [7, 8] k (fun kq v7 v8 w' => ∃ (x7_1 : Int) (x8_1 : Int), v7 = .int .u64 x7_1 ∧ v8 = .int .i64 x8_1 ∧ Aside0 (spec_l1TakeS.l0 kq a0 a1 (wrap64 (Int.tdiv (wrap64 (a1 + 6)) 7)) x7_1 x8_1 = some (r1, r2)) ∧ Aside0 (kq ≤ k) ∧ Drawn0 w w')
  case atStart => exact ⟨(0), (0), (by first | rfl | (simp; done) | (simp [*]; done)), (by first | rfl | (simp; done) | (simp [*]; done)), H', ⟨Nat.le_refl _⟩, by repeat (first | exact Drawn0.refl _ | apply Drawn0.step)⟩
  case round =>
    clear H'
    try clear p2
    obtain ⟨x7_1, x8_1, rfl, rfl, HA, HK1, ⟨m1, rfl⟩⟩ := hrel
    cases gk with
    | zero => exact absurd HA.out (by simp [spec_l1TakeS.l0])
    | succ k1 =>
      have H := HA.out
      clear HA
      simp only [spec_l1TakeS.l0] at H
      have HC3 := Aside0.mk H
      clear H
      go_upto_region 4 with (fail)
      go_cut [24] (fun v24 wc => ∃ (kq : Nat) (x24_2 : Bool), v24 = .bool x24_2 ∧ Aside0 (spec_l1TakeS.j1 kq a0 a1 (wrap64 (Int.tdiv (wrap64 (a1 + 6)) 7)) x7_1 x8_1 x24_2 = some (r1, r2)) ∧ Aside0 (kq ≤ k1) ∧ Drawn0 w wc)
      case first =>
        have H := HC3.out
        clear HC3
        by_cases c4 : x8_1 < (wrap64 (Int.tdiv (wrap64 (a1 + 6)) 7))
        · rw [if_pos c4] at H
          have c4b0 : decide (x8_1 < (wrap64 (Int.tdiv (wrap64 (a1 + 6)) 7))) = true := decide_eq_true c4
          clear c4
          (first | rw [c4b0] | (simp only [i64_w, i32_w]; rw [c4b0]) | skip)
          have H' := Aside0.mk H
          clear H
          go_wp2
          go_meet
          case rel => exact ⟨_, (decide (x8_1 < (a0.size : Int))), (by first | rfl | (simp; done) | (simp [*]; done)), H', ⟨by have := HK1.out; first | omega | exact Nat.le_refl _⟩, by repeat (first | exact Drawn0.refl _ | apply Drawn0.step)⟩
        · rw [if_neg c4] at H
          have c4b0 : decide (x8_1 < (wrap64 (Int.tdiv (wrap64 (a1 + 6)) 7))) = false := decide_eq_false c4
          clear c4
          (first | rw [c4b0] | (simp only [i64_w, i32_w]; rw [c4b0]) | skip)
          have H' := Aside0.mk H
          clear H
          go_wp2
          go_meet
          case rel => exact ⟨_, (false), (by first | rfl | (simp; done) | (simp [*]; done)), H', ⟨by have := HK1.out; first | omega | exact Nat.le_refl _⟩, by repeat (first | exact Drawn0.refl _ | apply Drawn0.step)⟩
      case rest =>
        clear HC3
        try clear p2
        try clear c4
        try clear c4b0
        try clear p2
        obtain ⟨kq, x24_2, rfl, HA, HJ2, ⟨mc2, rfl⟩⟩ := hcut
        cases kq with
        | zero => exact absurd HA.out (by simp [spec_l1TakeS.j1])
        | succ kj2 =>
          have H := HA.out
          clear HA
          simp only [spec_l1TakeS.j1] at H
          by_cases c5 : x24_2 = true
          · subst c5
            have H1 : (if 0 ≤ x8_1 then (if x8_1 < (a0.size : Int) then (if 0 ≤ (IntKind.u64.wrap (wrap64 (7 * x8_1))) then (if (bt a0 x8_1) ≥ 128 then (spec_l1TakeS.l0 kj2 a0 a1 (wrap64 (Int.tdiv (wrap64 (a1 + 6)) 7)) (Go.bits .or .u64 x7_1 (shl .u64 (IntKind.u64.wrap (Go.bits .and .u8 (bt a0 x8_1) 127)) (IntKind.u64.wrap (wrap64 (7 * x8_1))))) (wrap64 (x8_1 + 1))) else (if (wrap64 (a1 - (wrap64 (7 * x8_1)))) < 7 then (if 0 ≤ (IntKind.u64.wrap (wrap64 ((wrap64 (a1 - (wrap64 (7 * x8_1)))) - 1))) then (if (shr .u64 (IntKind.u64.wrap (Go.bits .and .u8 (bt a0 x8_1) 127)) (IntKind.u64.wrap (wrap64 ((wrap64 (a1 - (wrap64 (7 * x8_1)))) - 1)))) = 0 then (spec_l1TakeS.j2 kj2 (Go.bits .or .u64 x7_1 (shl .u64 (IntKind.u64.wrap (Go.bits .and .u8 (bt a0 x8_1) 127)) (IntKind.u64.wrap (wrap64 (7 * x8_1))))) x8_1 (IntKind.u64.wrap (Go.bits .and .u8 (bt a0 x8_1) 127)) false) else (spec_l1TakeS.j2 kj2 (Go.bits .or .u64 x7_1 (shl .u64 (IntKind.u64.wrap (Go.bits .and .u8 (bt a0 x8_1) 127)) (IntKind.u64.wrap (wrap64 (7 * x8_1))))) x8_1 (IntKind.u64.wrap (Go.bits .and .u8 (bt a0 x8_1) 127)) ((shr .u64 (IntKind.u64.wrap (Go.bits .and .u8 (bt a0 x8_1) 127)) (IntKind.u64.wrap (wrap64 ((wrap64 (a1 - (wrap64 (7 * x8_1)))) - 1)))) != (shr .u64 127 (IntKind.u64.wrap (wrap64 ((wrap64 (a1 - (wrap64 (7 * x8_1)))) - 1))))))) else (none)) else (if (wrap64 (7 * (wrap64 (x8_1 + 1)))) < 64 then (if (Go.bits .and .u64 (IntKind.u64.wrap (Go.bits .and .u8 (bt a0 x8_1) 127)) 64) = 0 then (some (wrap64 (Go.bits .or .u64 x7_1 (shl .u64 (IntKind.u64.wrap (Go.bits .and .u8 (bt a0 x8_1) 127)) (IntKind.u64.wrap (wrap64 (7 * x8_1))))), wrap64 (x8_1 + 1))) else (if 0 ≤ (IntKind.u64.wrap (wrap64 (7 * (wrap64 (x8_1 + 1))))) then (some (wrap64 (Go.bits .or .u64 (Go.bits .or .u64 x7_1 (shl .u64 (IntKind.u64.wrap (Go.bits .and .u8 (bt a0 x8_1) 127)) (IntKind.u64.wrap (wrap64 (7 * x8_1))))) (shl .u64 18446744073709551615 (IntKind.u64.wrap (wrap64 (7 * (wrap64 (x8_1 + 1))))))), wrap64 (x8_1 + 1))) else (none))) else (some (wrap64 (Go.bits .or .u64 x7_1 (shl .u64 (IntKind.u64.wrap (Go.bits .and .u8 (bt a0 x8_1) 127)) (IntKind.u64.wrap (wrap64 (7 * x8_1))))), wrap64 (x8_1 + 1)))))) else (none)) else (none)) else (none)) = some (r1, r2) := by rw [if_pos rfl] at H; exact H
            clear H
            have H := H1
            clear H1
            by_cases c6 : 0 ≤ x8_1
            · rw [if_pos c6] at H
              have c6b0 : decide (0 ≤ x8_1) = true := decide_eq_true c6
              clear c6
              by_cases c7 : x8_1 < (a0.size : Int)
              · rw [if_pos c7] at H
                have c7b0 : decide (x8_1 < (a0.size : Int)) = true := decide_eq_true c7
                clear c7
                obtain ⟨ji9, hji9⟩ : ∃ j_ : Int, (IntKind.u64.wrap (wrap64 (7 * x8_1))) = j_ := ⟨_, rfl⟩
                replace H : (if 0 ≤ (ji9) then (if (bt a0 x8_1) ≥ 128 then (spec_l1TakeS.l0 kj2 a0 a1 (wrap64 (Int.tdiv (wrap64 (a1 + 6)) 7)) (Go.bits .or .u64 x7_1 (shl .u64 (IntKind.u64.wrap (Go.bits .and .u8 (bt a0 x8_1) 127)) (ji9))) (wrap64 (x8_1 + 1))) else (if (wrap64 (a1 - (wrap64 (7 * x8_1)))) < 7 then (if 0 ≤ (IntKind.u64.wrap (wrap64 ((wrap64 (a1 - (wrap64 (7 * x8_1)))) - 1))) then (if (shr .u64 (IntKind.u64.wrap (Go.bits .and .u8 (bt a0 x8_1) 127)) (IntKind.u64.wrap (wrap64 ((wrap64 (a1 - (wrap64 (7 * x8_1)))) - 1)))) = 0 then (spec_l1TakeS.j2 kj2 (Go.bits .or .u64 x7_1 (shl .u64 (IntKind.u64.wrap (Go.bits .and .u8 (bt a0 x8_1) 127)) (ji9))) x8_1 (IntKind.u64.wrap (Go.bits .and .u8 (bt a0 x8_1) 127)) false) else (spec_l1TakeS.j2 kj2 (Go.bits .or .u64 x7_1 (shl .u64 (IntKind.u64.wrap (Go.bits .and .u8 (bt a0 x8_1) 127)) (ji9))) x8_1 (IntKind.u64.wrap (Go.bits .and .u8 (bt a0 x8_1) 127)) ((shr .u64 (IntKind.u64.wrap (Go.bits .and .u8 (bt a0 x8_1) 127)) (IntKind.u64.wrap (wrap64 ((wrap64 (a1 - (wrap64 (7 * x8_1)))) - 1)))) != (shr .u64 127 (IntKind.u64.wrap (wrap64 ((wrap64 (a1 - (wrap64 (7 * x8_1)))) - 1))))))) else (none)) else (if (wrap64 (7 * (wrap64 (x8_1 + 1)))) < 64 then (if (Go.bits .and .u64 (IntKind.u64.wrap (Go.bits .and .u8 (bt a0 x8_1) 127)) 64) = 0 then (some (wrap64 (Go.bits .or .u64 x7_1 (shl .u64 (IntKind.u64.wrap (Go.bits .and .u8 (bt a0 x8_1) 127)) (ji9))), wrap64 (x8_1 + 1))) else (if 0 ≤ (IntKind.u64.wrap (wrap64 (7 * (wrap64 (x8_1 + 1))))) then (some (wrap64 (Go.bits .or .u64 (Go.bits .or .u64 x7_1 (shl .u64 (IntKind.u64.wrap (Go.bits .and .u8 (bt a0 x8_1) 127)) (ji9))) (shl .u64 18446744073709551615 (IntKind.u64.wrap (wrap64 (7 * (wrap64 (x8_1 + 1))))))), wrap64 (x8_1 + 1))) else (none))) else (some (wrap64 (Go.bits .or .u64 x7_1 (shl .u64 (IntKind.u64.wrap (Go.bits .and .u8 (bt a0 x8_1) 127)) (ji9))), wrap64 (x8_1 + 1)))))) else (none)) = some (r1, r2) := by first | (rw [hji9] at H; exact H) | (simp only [hji9] at H ⊢; exact H)
                by_cases c10 : 0 ≤ (ji9)
                · rw [if_pos c10] at H
                  have c10b0 := eq_true c10
                  have c10b1 : decide (0 ≤ (ji9)) = true := decide_eq_true c10
                  clear c10
                  obtain ⟨ji11, hji11⟩ : ∃ j_ : Int, (shl .u64 (IntKind.u64.wrap (Go.bits .and .u8 (bt a0 x8_1) 127)) (ji9)) = j_ := ⟨_, rfl⟩
                  replace H : (if (bt a0 x8_1) ≥ 128 then (spec_l1TakeS.l0 kj2 a0 a1 (wrap64 (Int.tdiv (wrap64 (a1 + 6)) 7)) (Go.bits .or .u64 x7_1 (ji11)) (wrap64 (x8_1 + 1))) else (if (wrap64 (a1 - (wrap64 (7 * x8_1)))) < 7 then (if 0 ≤ (IntKind.u64.wrap (wrap64 ((wrap64 (a1 - (wrap64 (7 * x8_1)))) - 1))) then (if (shr .u64 (IntKind.u64.wrap (Go.bits .and .u8 (bt a0 x8_1) 127)) (IntKind.u64.wrap (wrap64 ((wrap64 (a1 - (wrap64 (7 * x8_1)))) - 1)))) = 0 then (spec_l1TakeS.j2 kj2 (Go.bits .or .u64 x7_1 (ji11)) x8_1 (IntKind.u64.wrap (Go.bits .and .u8 (bt a0 x8_1) 127)) false) else (spec_l1TakeS.j2 kj2 (Go.bits .or .u64 x7_1 (ji11)) x8_1 (IntKind.u64.wrap (Go.bits .and .u8 (bt a0 x8_1) 127)) ((shr .u64 (IntKind.u64.wrap (Go.bits .and .u8 (bt a0 x8_1) 127)) (IntKind.u64.wrap (wrap64 ((wrap64 (a1 - (wrap64 (7 * x8_1)))) - 1)))) != (shr .u64 127 (IntKind.u64.wrap (wrap64 ((wrap64 (a1 - (wrap64 (7 * x8_1)))) - 1))))))) else (none)) else (if (wrap64 (7 * (wrap64 (x8_1 + 1)))) < 64 then (if (Go.bits .and .u64 (IntKind.u64.wrap (Go.bits .and .u8 (bt a0 x8_1) 127)) 64) = 0 then (some (wrap64 (Go.bits .or .u64 x7_1 (ji11)), wrap64 (x8_1 + 1))) else (if 0 ≤ (IntKind.u64.wrap (wrap64 (7 * (wrap64 (x8_1 + 1))))) then (some (wrap64 (Go.bits .or .u64 (Go.bits .or .u64 x7_1 (ji11)) (shl .u64 18446744073709551615 (IntKind.u64.wrap (wrap64 (7 * (wrap64 (x8_1 + 1))))))), wrap64 (x8_1 + 1))) else (none))) else (some (wrap64 (Go.bits .or .u64 x7_1 (ji11)), wrap64 (x8_1 + 1)))))) = some (r1, r2) := by first | (rw [hji11] at H; exact H) | (simp only [hji11] at H ⊢; exact H)
                  have hji11_ : (IntKind.u64.wrap ((IntKind.u64.wrap (Go.bits .and .u8 (bt a0 x8_1) 127)) * 2 ^ min (ji9).toNat 64)) = ji11 := hji11
                  have hji11z : (ji9) ≤ 64 → (IntKind.u64.wrap ((IntKind.u64.wrap (Go.bits .and .u8 (bt a0 x8_1) 127)) * 2 ^ (ji9).toNat)) = ji11 := shl_small hji11
                  by_cases c13 : (bt a0 x8_1) ≥ 128
                  · rw [if_pos c13] at H
                    have c13b0 : decide (128 ≤ (bt a0 x8_1)) = true := decide_eq_true c13
                    clear c13
                    have H' := Aside0.mk H
                    clear H
                    have p8 : 0 ≤ (x8_1 : Int) := of_decide_eq_true (by first | (with_reducible assumption) | assumption)
                    have q8 : x8_1 < (a0.size : Int) := of_decide_eq_true (by first | (with_reducible assumption) | assumption)
                    have hx8 := bt_at a0 x8_1
                    replace p8 := eq_true p8
                    replace q8 := eq_true q8
                    have p12 : 0 ≤ (x8_1 : Int) := of_decide_eq_true (by first | (with_reducible assumption) | assumption)
                    have q12 : x8_1 < (a0.size : Int) := of_decide_eq_true (by first | (with_reducible assumption) | assumption)
                    have hx12 := bt_at a0 x8_1
                    replace p12 := eq_true p12
                    replace q12 := eq_true q12
                    go_wp2
                    go_roundg kj2
                    case measure => have := HK1.out; have := HJ2.out; omega
                    case rel => exact ⟨(Go.bits .or .u64 x7_1 (ji11)), (wrap64 (x8_1 + 1)), (by first | rfl | (simp; done) | (simp only [← hji11] <;> (first | rfl | simp)) | (simp [*]; done)), (by first | rfl | (simp; done) | (simp [*]; done)), H', ⟨by have := HK1.out; have := HJ2.out; omega⟩, by repeat (first | exact Drawn0.refl _ | apply Drawn0.step)⟩
                  · rw [if_neg c13] at H
                    have c13b0 : decide (128 ≤ (bt a0 x8_1)) = false := decide_eq_false c13
                    clear c13
                    by_cases c14 : (wrap64 (a1 - (wrap64 (7 * x8_1)))) < 7
                    · rw [if_pos c14] at H
                      have c14b0 : decide ((wrap64 (a1 - (wrap64 (7 * x8_1)))) < 7) = true := decide_eq_true c14
                      clear c14
                      obtain ⟨ji15, hji15⟩ : ∃ j_ : Int, (IntKind.u64.wrap (wrap64 ((wrap64 (a1 - (wrap64 (7 * x8_1)))) - 1))) = j_ := ⟨_, rfl⟩
                      replace H : (if 0 ≤ (ji15) then (if (shr .u64 (IntKind.u64.wrap (Go.bits .and .u8 (bt a0 x8_1) 127)) (ji15)) = 0 then (spec_l1TakeS.j2 kj2 (Go.bits .or .u64 x7_1 (ji11)) x8_1 (IntKind.u64.wrap (Go.bits .and .u8 (bt a0 x8_1) 127)) false) else (spec_l1TakeS.j2 kj2 (Go.bits .or .u64 x7_1 (ji11)) x8_1 (IntKind.u64.wrap (Go.bits .and .u8 (bt a0 x8_1) 127)) ((shr .u64 (IntKind.u64.wrap (Go.bits .and .u8 (bt a0 x8_1) 127)) (ji15)) != (shr .u64 127 (ji15))))) else (none)) = some (r1, r2) := by first | (rw [hji15] at H; exact H) | (simp only [hji15] at H ⊢; exact H)
                      by_cases c16 : 0 ≤ (ji15)
                      · rw [if_pos c16] at H
                        have c16b0 := eq_true c16
                        have c16b1 : decide (0 ≤ (ji15)) = true := decide_eq_true c16
                        clear c16
                        obtain ⟨ji17, hji17⟩ : ∃ j_ : Int, (shr .u64 (IntKind.u64.wrap (Go.bits .and .u8 (bt a0 x8_1) 127)) (ji15)) = j_ := ⟨_, rfl⟩
                        replace H : (if (ji17) = 0 then (spec_l1TakeS.j2 kj2 (Go.bits .or .u64 x7_1 (ji11)) x8_1 (IntKind.u64.wrap (Go.bits .and .u8 (bt a0 x8_1) 127)) false) else (spec_l1TakeS.j2 kj2 (Go.bits .or .u64 x7_1 (ji11)) x8_1 (IntKind.u64.wrap (Go.bits .and .u8 (bt a0 x8_1) 127)) ((ji17) != (shr .u64 127 (ji15))))) = some (r1, r2) := by first | (rw [hji17] at H; exact H) | (simp only [hji17] at H ⊢; exact H)
                        have hji17_ : ((IntKind.u64.wrap (Go.bits .and .u8 (bt a0 x8_1) 127)) / 2 ^ min (ji15).toNat 64) = ji17 := hji17
                        have hji17z : (ji15) ≤ 64 → ((IntKind.u64.wrap (Go.bits .and .u8 (bt a0 x8_1) 127)) / 2 ^ (ji15).toNat) = ji17 := shr_small hji17
                        have HC18 := Aside0.mk H
                        clear H
                        have p8 : 0 ≤ (x8_1 : Int) := of_decide_eq_true (by first | (with_reducible assumption) | assumption)
                        have q8 : x8_1 < (a0.size : Int) := of_decide_eq_true (by first | (with_reducible assumption) | assumption)
                        have hx8 := bt_at a0 x8_1
                        replace p8 := eq_true p8
                        replace q8 := eq_true q8
                        have p12 : 0 ≤ (x8_1 : Int) := of_decide_eq_true (by first | (with_reducible assumption) | assumption)
                        have q12 : x8_1 < (a0.size : Int) := of_decide_eq_true (by first | (with_reducible assumption) | assumption)
                        have hx12 := bt_at a0 x8_1
                        replace p12 := eq_true p12
                        replace q12 := eq_true q12
                        go_upto_region 12 with (fail)
                        go_cut [63] (fun v63 wc => ∃ (kq : Nat) (x63_17 : Bool), v63 = .bool x63_17 ∧ Aside0 (spec_l1TakeS.j2 kq (Go.bits .or .u64 x7_1 (ji11)) x8_1 (IntKind.u64.wrap (Go.bits .and .u8 (bt a0 x8_1) 127)) x63_17 = some (r1, r2)) ∧ Aside0 (kq ≤ kj2) ∧ Drawn0 w wc)
                        case first =>
                          have H := HC18.out
                          clear HC18
                          by_cases c19 : (ji17) = 0
                          · rw [if_pos c19] at H
                            have c19b0 : ((ji17) == 0) = true := beq_iff_eq.mpr c19
                            have c19b1 : ((ji17) != 0) = false := bne_eq_false_iff_eq.mpr c19
                            clear c19
                            (first | rw [c19b0] | (simp only [i64_w, i32_w]; rw [c19b0]) | skip)
                            have H' := Aside0.mk H
                            clear H
                            go_wp2
                            go_meet
                            case rel => exact ⟨_, (false), (by first | rfl | (simp; done) | (simp [*]; done)), H', ⟨by have := HK1.out; have := HJ2.out; first | omega | exact Nat.le_refl _⟩, by repeat (first | exact Drawn0.refl _ | apply Drawn0.step)⟩
                          · rw [if_neg c19] at H
                            have c19b0 : ((ji17) == 0) = false := beq_eq_false_iff_ne.mpr c19
                            have c19b1 : ((ji17) != 0) = true := bne_iff_ne.mpr c19
                            (first | rw [c19b0] | (simp only [i64_w, i32_w]; rw [c19b0]) | skip)
                            have c20b0 := eq_true (of_decide_eq_true (by first | (with_reducible assumption) | assumption) : 0 ≤ (ji15))
                            obtain ⟨ji21, hji21⟩ : ∃ j_ : Int, (shr .u64 127 (ji15)) = j_ := ⟨_, rfl⟩
                            replace H : (spec_l1TakeS.j2 kj2 (Go.bits .or .u64 x7_1 (ji11)) x8_1 (IntKind.u64.wrap (Go.bits .and .u8 (bt a0 x8_1) 127)) ((ji17) != (ji21))) = some (r1, r2) := by first | (rw [hji21] at H; exact H) | (simp only [hji21] at H ⊢; exact H)
                            have hji21_ : (127 / 2 ^ min (ji15).toNat 64) = ji21 := hji21
                            have hji21z : (ji15) ≤ 64 → (127 / 2 ^ (ji15).toNat) = ji21 := shr_small hji21
                            have H' := Aside0.mk H
                            clear H
                            go_wp2
                            go_meet
                            case rel => exact ⟨_, (((ji17) != (ji21))), (by first | rfl | (simp; done) | (simp only [← hji17, ← hji21] <;> (first | rfl | simp)) | (simp [*]; done)), H', ⟨by have := HK1.out; have := HJ2.out; first | omega | exact Nat.le_refl _⟩, by repeat (first | exact Drawn0.refl _ | apply Drawn0.step)⟩
                        case rest =>
                          clear HC18
                          try clear c1
                          try clear p1
                          try clear q1
                          try clear hx1
                          try clear c2
                          try clear p2
                          try clear c4
                          try clear c4b0
                          try clear c5
                          try clear c6
                          try clear c6b0
                          try clear p6
                          try clear c7
                          try clear c7b0
                          try clear p8
                          try clear q8
                          try clear hx8
                          try clear c10
                          try clear c10b0
                          try clear c10b1
                          try clear p12
                          try clear q12
                          try clear hx12
                          try clear c13
                          try clear c13b0
                          try clear c14
                          try clear c14b0
                          try clear c16
                          try clear c16b0
                          try clear c16b1
                          try clear c19
                          try clear c19b0
                          try clear c19b1
                          try clear c20
                          try clear c20b0
                          try clear p12
                          try clear p2
                          try clear p8
                          try clear q12
                          try clear q8
                          obtain ⟨kq, x63_17, rfl, HA, HJ17, ⟨mc17, rfl⟩⟩ := hcut
                          cases kq with
                          | zero => exact absurd HA.out (by simp [spec_l1TakeS.j2])
                          | succ kj17 =>
                            have H := HA.out
                            clear HA
                            simp only [spec_l1TakeS.j2] at H
                            by_cases c22 : x63_17 = true
                            · subst c22
                              have H1 : (some (0, 0)) = some (r1, r2) := by rw [if_pos rfl] at H; exact H
                              clear H
                              have H := H1
                              clear H1
                              simp only [Option.some.injEq, Prod.mk.injEq] at H
                              obtain ⟨rfl, rfl⟩ := H
                              go_wp2
                              go_ret2
                              exact ⟨by first | rfl | (simp; done) | (simp only [← hji9, ← hji11, ← hji15, ← hji17] <;> (first | rfl | simp)) | (simp [*]; done), by repeat (first | exact Drawn0.refl _ | apply Drawn0.step)⟩
                            · replace c22 := Bool.eq_false_iff.mpr c22
                              subst c22
                              have H1 : (if (wrap64 (7 * (wrap64 (x8_1 + 1)))) < 64 then (if (Go.bits .and .u64 (IntKind.u64.wrap (Go.bits .and .u8 (bt a0 x8_1) 127)) 64) = 0 then (some (wrap64 ((Go.bits .or .u64 x7_1 (ji11))), wrap64 (x8_1 + 1))) else (if 0 ≤ (IntKind.u64.wrap (wrap64 (7 * (wrap64 (x8_1 + 1))))) then (some (wrap64 (Go.bits .or .u64 (Go.bits .or .u64 x7_1 (ji11)) (shl .u64 18446744073709551615 (IntKind.u64.wrap (wrap64 (7 * (wrap64 (x8_1 + 1))))))), wrap64 (x8_1 + 1))) else (none))) else (some (wrap64 ((Go.bits .or .u64 x7_1 (ji11))), wrap64 (x8_1 + 1)))) = some (r1, r2) := by rw [if_neg (show ¬ (false = true) by decide)] at H; exact H
                              clear H
                              have H := H1
                              clear H1
                              by_cases c23 : (wrap64 (7 * (wrap64 (x8_1 + 1)))) < 64
                              · rw [if_pos c23] at H
                                have c23b0 : decide ((wrap64 (7 * (wrap64 (x8_1 + 1)))) < 64) = true := decide_eq_true c23
                                clear c23
                                by_cases c24 : (Go.bits .and .u64 (IntKind.u64.wrap (Go.bits .and .u8 (bt a0 x8_1) 127)) 64) = 0
                                · rw [if_pos c24] at H
                                  have c24b0 : ((Go.bits .and .u64 (IntKind.u64.wrap (Go.bits .and .u8 (bt a0 x8_1) 127)) 64) == 0) = true := beq_iff_eq.mpr c24
                                  have c24b1 : ((Go.bits .and .u64 (IntKind.u64.wrap (Go.bits .and .u8 (bt a0 x8_1) 127)) 64) != 0) = false := bne_eq_false_iff_eq.mpr c24
                                  clear c24
                                  simp only [Option.some.injEq, Prod.mk.injEq] at H
                                  obtain ⟨rfl, rfl⟩ := H
                                  go_wp2
                                  go_ret2
                                  exact ⟨by first | rfl | (simp; done) | (simp only [← hji9, ← hji11, ← hji15, ← hji17] <;> (first | rfl | simp)) | (simp [*]; done), by repeat (first | exact Drawn0.refl _ | apply Drawn0.step)⟩
                                · rw [if_neg c24] at H
                                  have c24b0 : ((Go.bits .and .u64 (IntKind.u64.wrap (Go.bits .and .u8 (bt a0 x8_1) 127)) 64) == 0) = false := beq_eq_false_iff_ne.mpr c24
                                  have c24b1 : ((Go.bits .and .u64 (IntKind.u64.wrap (Go.bits .and .u8 (bt a0 x8_1) 127)) 64) != 0) = true := bne_iff_ne.mpr c24
                                  obtain ⟨ji25, hji25⟩ : ∃ j_ : Int, (IntKind.u64.wrap (wrap64 (7 * (wrap64 (x8_1 + 1))))) = j_ := ⟨_, rfl⟩
                                  replace H : (if 0 ≤ (ji25) then (some (wrap64 (Go.bits .or .u64 (Go.bits .or .u64 x7_1 (ji11)) (shl .u64 18446744073709551615 (ji25))), wrap64 (x8_1 + 1))) else (none)) = some (r1, r2) := by first | (rw [hji25] at H; exact H) | (simp only [hji25] at H ⊢; exact H)
                                  by_cases c26 : 0 ≤ (ji25)
                                  · rw [if_pos c26] at H
                                    have c26b0 := eq_true c26
                                    have c26b1 : decide (0 ≤ (ji25)) = true := decide_eq_true c26
                                    clear c26
                                    obtain ⟨ji27, hji27⟩ : ∃ j_ : Int, (shl .u64 18446744073709551615 (ji25)) = j_ := ⟨_, rfl⟩
                                    replace H : (some (wrap64 (Go.bits .or .u64 (Go.bits .or .u64 x7_1 (ji11)) (ji27)), wrap64 (x8_1 + 1))) = some (r1, r2) := by first | (rw [hji27] at H; exact H) | (simp only [hji27] at H ⊢; exact H)
                                    have hji27_ : (IntKind.u64.wrap (18446744073709551615 * 2 ^ min (ji25).toNat 64)) = ji27 := hji27
                                    have hji27z : (ji25) ≤ 64 → (IntKind.u64.wrap (18446744073709551615 * 2 ^ (ji25).toNat)) = ji27 := shl_small hji27
                                    simp only [Option.some.injEq, Prod.mk.injEq] at H
                                    obtain ⟨rfl, rfl⟩ := H
                                    go_wp2
                                    go_ret2
                                    exact ⟨by first | rfl | (simp; done) | (simp only [← hji9, ← hji11, ← hji15, ← hji17, ← hji25, ← hji27] <;> (first | rfl | simp)) | (simp [*]; done), by repeat (first | exact Drawn0.refl _ | apply Drawn0.step)⟩
                                  · rw [if_neg c26] at H
                                    exact absurd H (by simp)
                              · rw [if_neg c23] at H
                                have c23b0 : decide ((wrap64 (7 * (wrap64 (x8_1 + 1)))) < 64) = false := decide_eq_false c23
                                clear c23
                                simp only [Option.some.injEq, Prod.mk.injEq] at H
                                obtain ⟨rfl, rfl⟩ := H
                                go_wp2
                                go_ret2
                                exact ⟨by first | rfl | (simp; done) | (simp only [← hji9, ← hji11, ← hji15, ← hji17] <;> (first | rfl | simp)) | (simp [*]; done), by repeat (first | exact Drawn0.refl _ | apply Drawn0.step)⟩
                      · rw [if_neg c16] at H
                        exact absurd H (by simp)
                    · rw [if_neg c14] at H
                      have c14b0 : decide ((wrap64 (a1 - (wrap64 (7 * x8_1)))) < 7) = false := decide_eq_false c14
                      clear c14
                      by_cases c28 : (wrap64 (7 * (wrap64 (x8_1 + 1)))) < 64
                      · rw [if_pos c28] at H
                        have c28b0 : decide ((wrap64 (7 * (wrap64 (x8_1 + 1)))) < 64) = true := decide_eq_true c28
                        clear c28
                        by_cases c29 : (Go.bits .and .u64 (IntKind.u64.wrap (Go.bits .and .u8 (bt a0 x8_1) 127)) 64) = 0
                        · rw [if_pos c29] at H
                          have c29b0 : ((Go.bits .and .u64 (IntKind.u64.wrap (Go.bits .and .u8 (bt a0 x8_1) 127)) 64) == 0) = true := beq_iff_eq.mpr c29
                          have c29b1 : ((Go.bits .and .u64 (IntKind.u64.wrap (Go.bits .and .u8 (bt a0 x8_1) 127)) 64) != 0) = false := bne_eq_false_iff_eq.mpr c29
                          clear c29
                          simp only [Option.some.injEq, Prod.mk.injEq] at H
                          obtain ⟨rfl, rfl⟩ := H
                          have p8 : 0 ≤ (x8_1 : Int) := of_decide_eq_true (by first | (with_reducible assumption) | assumption)
                          have q8 : x8_1 < (a0.size : Int) := of_decide_eq_true (by first | (with_reducible assumption) | assumption)
                          have hx8 := bt_at a0 x8_1
                          replace p8 := eq_true p8
                          replace q8 := eq_true q8
                          have p12 : 0 ≤ (x8_1 : Int) := of_decide_eq_true (by first | (with_reducible assumption) | assumption)
                          have q12 : x8_1 < (a0.size : Int) := of_decide_eq_true (by first | (with_reducible assumption) | assumption)
                          have hx12 := bt_at a0 x8_1
                          replace p12 := eq_true p12
                          replace q12 := eq_true q12
                          go_wp2
                          go_ret2
                          exact ⟨by first | rfl | (simp; done) | (simp only [← hji9, ← hji11] <;> (first | rfl | simp)) | (simp [*]; done), by repeat (first | exact Drawn0.refl _ | apply Drawn0.step)⟩
                        · rw [if_neg c29] at H
                          have c29b0 : ((Go.bits .and .u64 (IntKind.u64.wrap (Go.bits .and .u8 (bt a0 x8_1) 127)) 64) == 0) = false := beq_eq_false_iff_ne.mpr c29
                          have c29b1 : ((Go.bits .and .u64 (IntKind.u64.wrap (Go.bits .and .u8 (bt a0 x8_1) 127)) 64) != 0) = true := bne_iff_ne.mpr c29
                          obtain ⟨ji30, hji30⟩ : ∃ j_ : Int, (IntKind.u64.wrap (wrap64 (7 * (wrap64 (x8_1 + 1))))) = j_ := ⟨_, rfl⟩
                          replace H : (if 0 ≤ (ji30) then (some (wrap64 (Go.bits .or .u64 (Go.bits .or .u64 x7_1 (ji11)) (shl .u64 18446744073709551615 (ji30))), wrap64 (x8_1 + 1))) else (none)) = some (r1, r2) := by first | (rw [hji30] at H; exact H) | (simp only [hji30] at H ⊢; exact H)
                          by_cases c31 : 0 ≤ (ji30)
                          · rw [if_pos c31] at H
                            have c31b0 := eq_true c31
                            have c31b1 : decide (0 ≤ (ji30)) = true := decide_eq_true c31
                            clear c31
                            obtain ⟨ji32, hji32⟩ : ∃ j_ : Int, (shl .u64 18446744073709551615 (ji30)) = j_ := ⟨_, rfl⟩
                            replace H : (some (wrap64 (Go.bits .or .u64 (Go.bits .or .u64 x7_1 (ji11)) (ji32)), wrap64 (x8_1 + 1))) = some (r1, r2) := by first | (rw [hji32] at H; exact H) | (simp only [hji32] at H ⊢; exact H)
                            have hji32_ : (IntKind.u64.wrap (18446744073709551615 * 2 ^ min (ji30).toNat 64)) = ji32 := hji32
                            have hji32z : (ji30) ≤ 64 → (IntKind.u64.wrap (18446744073709551615 * 2 ^ (ji30).toNat)) = ji32 := shl_small hji32
                            simp only [Option.some.injEq, Prod.mk.injEq] at H
                            obtain ⟨rfl, rfl⟩ := H
                            have p8 : 0 ≤ (x8_1 : Int) := of_decide_eq_true (by first | (with_reducible assumption) | assumption)
                            have q8 : x8_1 < (a0.size : Int) := of_decide_eq_true (by first | (with_reducible assumption) | assumption)
                            have hx8 := bt_at a0 x8_1
                            replace p8 := eq_true p8
                            replace q8 := eq_true q8
                            have p12 : 0 ≤ (x8_1 : Int) := of_decide_eq_true (by first | (with_reducible assumption) | assumption)
                            have q12 : x8_1 < (a0.size : Int) := of_decide_eq_true (by first | (with_reducible assumption) | assumption)
                            have hx12 := bt_at a0 x8_1
                            replace p12 := eq_true p12
                            replace q12 := eq_true q12
                            go_wp2
                            go_ret2
                            exact ⟨by first | rfl | (simp; done) | (simp only [← hji9, ← hji11, ← hji30, ← hji32] <;> (first | rfl | simp)) | (simp [*]; done), by repeat (first | exact Drawn0.refl _ | apply Drawn0.step)⟩
                          · rw [if_neg c31] at H
                            exact absurd H (by simp)
                      · rw [if_neg c28] at H
                        have c28b0 : decide ((wrap64 (7 * (wrap64 (x8_1 + 1)))) < 64) = false := decide_eq_false c28
                        clear c28
                        simp only [Option.some.injEq, Prod.mk.injEq] at H
                        obtain ⟨rfl, rfl⟩ := H
                        have p8 : 0 ≤ (x8_1 : Int) := of_decide_eq_true (by first | (with_reducible assumption) | assumption)
                        have q8 : x8_1 < (a0.size : Int) := of_decide_eq_true (by first | (with_reducible assumption) | assumption)
                        have hx8 := bt_at a0 x8_1
                        replace p8 := eq_true p8
                        replace q8 := eq_true q8
                        have p12 : 0 ≤ (x8_1 : Int) := of_decide_eq_true (by first | (with_reducible assumption) | assumption)
                        have q12 : x8_1 < (a0.size : Int) := of_decide_eq_true (by first | (with_reducible assumption) | assumption)
                        have hx12 := bt_at a0 x8_1
                        replace p12 := eq_true p12
                        replace q12 := eq_true q12
                        go_wp2
                        go_ret2
                        exact ⟨by first | rfl | (simp; done) | (simp only [← hji9, ← hji11] <;> (first | rfl | simp)) | (simp [*]; done), by repeat (first | exact Drawn0.refl _ | apply Drawn0.step)⟩
                · rw [if_neg c10] at H
                  exact absurd H (by simp)
              · rw [if_neg c7] at H
                exact absurd H (by simp)
            · rw [if_neg c6] at H
              exact absurd H (by simp)
          · replace c5 := Bool.eq_false_iff.mpr c5
            subst c5
            have H1 : (some (0, 0)) = some (r1, r2) := by rw [if_neg (show ¬ (false = true) by decide)] at H; exact H
            clear H
            have H := H1
            clear H1
            simp only [Option.some.injEq, Prod.mk.injEq] at H
            obtain ⟨rfl, rfl⟩ := H
            go_wp2
            go_ret2
            exact ⟨by first | rfl | (simp; done) | (simp [*]; done), by repeat (first | exact Drawn0.refl _ | apply Drawn0.step)⟩

/-! ### spec_TakeSleb: function 25 -/
def spec_TakeSleb.f (k : Nat) (a0 : ByteArray) (a1 : Int) : Option (Int × Int) := (spec_l1In.f a1 1 64).bind fun t101 => (if t101 = true then ((spec_l1TakeS.f k a0 a1).bind fun bt102 => (some (bt102.1, bt102.2))) else (some (0, 0)))
theorem spec_TakeSleb.mono : ∀ a0 a1 k, LeO (spec_TakeSleb.f k a0 a1) (spec_TakeSleb.f (k + 1) a0 a1) := by
  intro a0 a1 k
  unfold spec_TakeSleb.f
  repeat' first
      | (with_reducible exact spec_l1TakeS.mono _ _ _)
      | (with_reducible exact LeO.refl _)
      | (with_reducible exact LeO.none _)
      | (with_reducible refine LeO.ite ?_ ?_)
      | (with_reducible refine LeO.bind ?_ (fun _ => ?_))
      | exact spec_l1TakeS.mono _ _ _
      | exact LeO.none _
      | refine LeO.ite ?_ ?_
      | refine LeO.bind ?_ (fun _ => ?_)
set_option maxHeartbeats 8000000 in
set_option maxRecDepth 100000 in
theorem spec_TakeSleb.calls (k : Nat) (a0 : ByteArray) (a1 : Int) (r1 : Int) (r2 : Int) (w : World) (h : spec_TakeSleb.f k a0 a1 = some (r1, r2)) :
    Calls Try.prog 25 #[.string a0, .int .i64 a1] w fun e w' => e = .returned (.tuple #[.int .i64 r1, .int .i64 r2]) ∧ Drawn0 w w' := by
  have H : ((spec_l1In.f a1 1 64).bind fun t101 => (if t101 = true then ((spec_l1TakeS.f k a0 a1).bind fun bt102 => (some (bt102.1, bt102.2))) else (some (0, 0)))) = some (r1, r2) := h
  clear h
  replace H := Option.bind_eq_some_iff.mp H
  obtain ⟨t101, A30, H⟩ := H
  replace H : (if t101 = true then ((spec_l1TakeS.f k a0 a1).bind fun bt102 => (some (bt102.1, bt102.2))) else (some (0, 0))) = some (r1, r2) := H
  have A3 := Aside0.mk A30
  clear A30
  by_cases c4 : t101 = true
  · subst c4
    have H1 : ((spec_l1TakeS.f k a0 a1).bind fun bt102 => (some (bt102.1, bt102.2))) = some (r1, r2) := by rw [if_pos rfl] at H; exact H
    clear H
    have H := H1
    clear H1
    replace H := Option.bind_eq_some_iff.mp H
    obtain ⟨⟨t102, t103⟩, A50, H⟩ := H
    replace H : (some (t102, t103)) = some (r1, r2) := H
    have A5 := Aside0.mk A50
    clear A50
    simp only [Option.some.injEq, Prod.mk.injEq] at H
    obtain ⟨rfl, rfl⟩ := H
    go_enter Try.func25, Try.ntmps25
    go_wp2_with (first | ((with_reducible refine gate_callee (f := 53) rfl ?_); refine goesL_ (some 7) rfl rfl Try.func53 (by kernel_rfl) rfl #[.int .i64 a1, .int .i64 1, .int .i64 64] rfl (by (try simp only [List.map_toArray, List.map_cons, List.map_nil]); first | done | rfl | (simp only [List.length_drop, List.length_take]; rfl)) ?_; (with_reducible refine (spec_l1In.calls a1 1 64 true _ A3.out).mono ?_); rintro e w' ⟨rfl, ⟨nd, rfl⟩⟩; refine ⟨_, rfl, ?_⟩) | ((with_reducible refine gate_callee (f := 54) rfl ?_); refine goesL_ (some 11) rfl rfl Try.func54 (by kernel_rfl) rfl #[.string a0, .int .i64 a1] rfl (by (try simp only [List.map_toArray, List.map_cons, List.map_nil]); first | done | rfl | (simp only [List.length_drop, List.length_take]; rfl)) ?_; (with_reducible refine (spec_l1TakeS.calls k a0 a1 t102 t103 _ A5.out).mono ?_); rintro e w' ⟨rfl, ⟨nd, rfl⟩⟩; refine ⟨_, rfl, ?_⟩))
    go_ret2
    exact ⟨by first | rfl | (simp; done) | (simp [*]; done), by repeat (first | exact Drawn0.refl _ | apply Drawn0.step)⟩
  · replace c4 := Bool.eq_false_iff.mpr c4
    subst c4
    have H1 : (some (0, 0)) = some (r1, r2) := by rw [if_neg (show ¬ (false = true) by decide)] at H; exact H
    clear H
    have H := H1
    clear H1
    simp only [Option.some.injEq, Prod.mk.injEq] at H
    obtain ⟨rfl, rfl⟩ := H
    go_enter Try.func25, Try.ntmps25
    go_wp2_with (first | ((with_reducible refine gate_callee (f := 53) rfl ?_); refine goesL_ (some 7) rfl rfl Try.func53 (by kernel_rfl) rfl #[.int .i64 a1, .int .i64 1, .int .i64 64] rfl (by (try simp only [List.map_toArray, List.map_cons, List.map_nil]); first | done | rfl | (simp only [List.length_drop, List.length_take]; rfl)) ?_; (with_reducible refine (spec_l1In.calls a1 1 64 false _ A3.out).mono ?_); rintro e w' ⟨rfl, ⟨nd, rfl⟩⟩; refine ⟨_, rfl, ?_⟩))
    go_ret2
    exact ⟨by first | rfl | (simp; done) | (simp [*]; done), by repeat (first | exact Drawn0.refl _ | apply Drawn0.step)⟩

end Go.Proofs.Ythpmpjejjbhkjaa.PFnExactTakeSleb
