/- FOfInt: the law, by walks of our own. -/
import Derived.Test.YtfmmmfddpfddoaaOwnFoP
import Derived.Deep.CutBlock
import Derived.Deep.LoopGhost
namespace Go.Proofs.Ytfmmmfddpfddoaa.OwnFoL
open Go Go.RowKit Go.Proofs.YtfmmmfddpfddoaaW.PrintWords Go.Proofs.YtfmmmfddpfddoaaW.PrintLast Go.Proofs.YtfmmmfddpfddoaaW.PrintMore Go.Proofs.Ytfmmmfddpfddoaa.OwnRnd Go.Proofs.Ytfmmmfddpfddoaa.OwnRndI Go.Proofs.Ytfmmmfddpfddoaa.OwnRfL Go.Proofs.Ytfmmmfddpfddoaa.OwnFoP
set_option linter.unusedVariables false
set_option linter.unusedSimpArgs false
set_option maxRecDepth 100000 in
set_option maxHeartbeats 8000000 in
theorem os16_false (m0 : Nat) (h63 : m0 ≤ 9223372036854775807) (w : World) : Calls Try.prog 79 #[.agg #[.int .u64 5, .int .u64 10], .int .i64 (m0 : Int)] w fun en w' => en = .returned (.int .u32 (rnd16 false m0 0 false)) ∧ Below w.heap.size w w' := by
  have cR : ∀ (M j : Nat) (b : Bool), OK m0 M j b → ∀ w, Calls Try.prog 75 #[.agg #[.int .u64 5, .int .u64 10], .bool false, .int .u64 M, .int .i64 j, .bool b] w fun en w' => en = .returned (.int .u32 (rnd16 false m0 0 false)) ∧ Below w.heap.size w w' := by
    intro M j b hO w
    have hM : M ≤ m0 := by rw [hO.1]; exact Nat.div_le_self _ _
    have hj := hO.2.2.1
    have := rs16 false b M j (by omega) (by omega) (by omega) w
    rw [same16 false m0 M j b hO (by omega)] at this
    exact this
  have nx : ∀ (M j : Nat) (b : Bool), OK m0 M j b → 1152921504606846976 ≤ M → j < 4 ∧ OK m0 (M / 2) (j + 1) (b || decide (M % 2 = 1)) := fun M j b h hM => ok_next m0 M j b h (by omega) hM
  generalize rnd16 false m0 0 false = V at *
  have z0 : OK m0 m0 0 false := ok_zero m0
  have d0 : decide ((m0 : Int) < 0) = false := decide_eq_false (by omega)
  have hu : IntKind.u64.wrap (m0 : Int) = (m0 : Int) := by rw [IntKind.wrap_u64]; omega
  go_enter Try.func79, Try.ntmps79
  go_wp2_with fail
  go_loopg [6, 7, 8] 4 (fun g s6 s7 s8 wx => Cells16 w wx ∧ ∃ (M j : Nat) (b : Bool), g + j = 4 ∧ s6 = .int .u64 (M : Int) ∧ s7 = .int .i64 (j : Int) ∧ s8 = .bool b ∧ OK m0 M j b)
  case atStart => exact ⟨⟨by go_simp, by go_simp, by go_simp, by go_simp, by simp, by repeat (first | (with_reducible exact Below.refl _ _) | (with_reducible refine below_alloc ?_ _) | (with_reducible refine below_drew1 ?_) | (with_reducible refine pw_below_drewN ?_ _) | (with_reducible refine below_set ?_ (by omega)) | (with_reducible refine below_step ?_ hb3) | (with_reducible refine below_step ?_ hb1) | exact hB)⟩, m0, 0, false, rfl, rfl, rfl, rfl, z0⟩
  case round =>
    obtain ⟨⟨x0, x1, y0, y1, xs, hB⟩, M, j, b, hg, rfl, rfl, rfl, hO⟩ := hrel
    have cR2 := cR M j b hO
    have nx2 := nx M j b hO
    clear cR nx z0
    by_cases c1 : 1152921504606846976 ≤ M
    · have d1 : decide ((1152921504606846976 : Int) ≤ (M : Int)) = true := decide_eq_true (by omega)
      have e1 : bits .and .u64 (M : Int) 1 = ((M % 2 : Nat) : Int) := by rw [and_one .u64 (by decide)]; omega
      have e2 : (M : Int) / 2 = ((M / 2 : Nat) : Int) := by omega
      have hj : j < 4 ∧ Aside (OK m0 (M / 2) (j + 1) (b || decide (M % 2 = 1))) := ⟨(nx2 c1).1, (nx2 c1).2⟩
      obtain ⟨hj, HO⟩ := hj
      have e3 : IntKind.i64.wrap ((j : Int) + 1) = ((j + 1 : Nat) : Int) := by rw [IntKind.wrap_i64]; omega
      obtain ⟨M2, hM2⟩ : ∃ M2, M / 2 = M2 := ⟨_, rfl⟩
      obtain ⟨j2, hj2⟩ : ∃ j2, j + 1 = j2 := ⟨_, rfl⟩
      obtain ⟨g2, hg2⟩ : ∃ g2, g2 + j2 = 4 := ⟨4 - j2, by omega⟩
      have hg3 : g2 < gk := by omega
      rw [hM2] at e2 HO
      rw [hj2] at e3 HO
      clear nx2 cR2 hO hM2 hj2 hj hg d0
      cases b with
      | true =>
        rw [Bool.true_or] at HO
        go_wp2_with fail
        go_roundg g2
        case measure => exact hg3
        case rel => exact ⟨⟨x0, x1, y0, y1, xs, hB⟩, M2, j2, true, hg2, rfl, rfl, rfl, HO.out⟩
      | false =>
        rw [Bool.false_or] at HO
        by_cases c2 : M % 2 = 1
        · have d2 : (((M % 2 : Nat) : Int) == 1) = true := by rw [c2]; rfl
          rw [decide_eq_true c2] at HO
          rw [c2] at e1 d2
          go_wp2_with fail
          go_roundg g2
          case measure => exact hg3
          case rel => exact ⟨⟨x0, x1, y0, y1, xs, hB⟩, M2, j2, true, hg2, rfl, rfl, rfl, HO.out⟩
        · have c3 : M % 2 = 0 := by omega
          rw [decide_eq_false c2] at HO
          rw [c3] at e1
          go_wp2_with fail
          go_roundg g2
          case measure => exact hg3
          case rel => exact ⟨⟨x0, x1, y0, y1, xs, hB⟩, M2, j2, false, hg2, rfl, rfl, rfl, HO.out⟩
    · have d1 : decide ((1152921504606846976 : Int) ≤ (M : Int)) = false := decide_eq_false (by omega)
      clear nx2 hO hg d0
      go_wp2_with (first | (go_at_call 75; (with_reducible refine (cR2 _).mono ?_); rintro e w3 ⟨rfl, hb3⟩))
      go_ret
      exact ⟨rfl, by repeat (first | (with_reducible exact Below.refl _ _) | (with_reducible refine below_alloc ?_ _) | (with_reducible refine below_drew1 ?_) | (with_reducible refine pw_below_drewN ?_ _) | (with_reducible refine below_set ?_ (by omega)) | (with_reducible refine below_step ?_ hb3) | (with_reducible refine below_step ?_ hb1) | exact hB)⟩
set_option maxRecDepth 100000 in
set_option maxHeartbeats 8000000 in
theorem os16_true (m0 : Nat) (h63 : m0 ≤ 9223372036854775808) (h1 : 1 ≤ m0) (w : World) : Calls Try.prog 79 #[.agg #[.int .u64 5, .int .u64 10], .int .i64 (-(m0 : Int))] w fun en w' => en = .returned (.int .u32 (rnd16 true m0 0 false)) ∧ Below w.heap.size w w' := by
  have cR : ∀ (M j : Nat) (b : Bool), OK m0 M j b → ∀ w, Calls Try.prog 75 #[.agg #[.int .u64 5, .int .u64 10], .bool true, .int .u64 M, .int .i64 j, .bool b] w fun en w' => en = .returned (.int .u32 (rnd16 true m0 0 false)) ∧ Below w.heap.size w w' := by
    intro M j b hO w
    have hM : M ≤ m0 := by rw [hO.1]; exact Nat.div_le_self _ _
    have hj := hO.2.2.1
    have := rs16 true b M j (by omega) (by omega) (by omega) w
    rw [same16 true m0 M j b hO (by omega)] at this
    exact this
  have nx : ∀ (M j : Nat) (b : Bool), OK m0 M j b → 1152921504606846976 ≤ M → j < 4 ∧ OK m0 (M / 2) (j + 1) (b || decide (M % 2 = 1)) := fun M j b h hM => ok_next m0 M j b h (by omega) hM
  generalize rnd16 true m0 0 false = V at *
  have z0 : OK m0 m0 0 false := ok_zero m0
  have d0 : decide (-(m0 : Int) < 0) = true := decide_eq_true (by omega)
  obtain ⟨u, hu⟩ : ∃ u : Int, IntKind.u64.wrap (-(m0 : Int)) = u := ⟨_, rfl⟩
  have wu : IntKind.u64.wrap (-u) = (m0 : Int) := by rw [← hu]; simp only [IntKind.wrap_u64]; omega
  go_enter Try.func79, Try.ntmps79
  go_wp2_with fail
  go_loopg [6, 7, 8] 4 (fun g s6 s7 s8 wx => Cells16 w wx ∧ ∃ (M j : Nat) (b : Bool), g + j = 4 ∧ s6 = .int .u64 (M : Int) ∧ s7 = .int .i64 (j : Int) ∧ s8 = .bool b ∧ OK m0 M j b)
  case atStart => exact ⟨⟨by go_simp, by go_simp, by go_simp, by go_simp, by simp, by repeat (first | (with_reducible exact Below.refl _ _) | (with_reducible refine below_alloc ?_ _) | (with_reducible refine below_drew1 ?_) | (with_reducible refine pw_below_drewN ?_ _) | (with_reducible refine below_set ?_ (by omega)) | (with_reducible refine below_step ?_ hb3) | (with_reducible refine below_step ?_ hb1) | exact hB)⟩, m0, 0, false, rfl, rfl, rfl, rfl, z0⟩
  case round =>
    obtain ⟨⟨x0, x1, y0, y1, xs, hB⟩, M, j, b, hg, rfl, rfl, rfl, hO⟩ := hrel
    have cR2 := cR M j b hO
    have nx2 := nx M j b hO
    clear cR nx z0
    by_cases c1 : 1152921504606846976 ≤ M
    · have d1 : decide ((1152921504606846976 : Int) ≤ (M : Int)) = true := decide_eq_true (by omega)
      have e1 : bits .and .u64 (M : Int) 1 = ((M % 2 : Nat) : Int) := by rw [and_one .u64 (by decide)]; omega
      have e2 : (M : Int) / 2 = ((M / 2 : Nat) : Int) := by omega
      have hj : j < 4 ∧ Aside (OK m0 (M / 2) (j + 1) (b || decide (M % 2 = 1))) := ⟨(nx2 c1).1, (nx2 c1).2⟩
      obtain ⟨hj, HO⟩ := hj
      have e3 : IntKind.i64.wrap ((j : Int) + 1) = ((j + 1 : Nat) : Int) := by rw [IntKind.wrap_i64]; omega
      obtain ⟨M2, hM2⟩ : ∃ M2, M / 2 = M2 := ⟨_, rfl⟩
      obtain ⟨j2, hj2⟩ : ∃ j2, j + 1 = j2 := ⟨_, rfl⟩
      obtain ⟨g2, hg2⟩ : ∃ g2, g2 + j2 = 4 := ⟨4 - j2, by omega⟩
      have hg3 : g2 < gk := by omega
      rw [hM2] at e2 HO
      rw [hj2] at e3 HO
      clear nx2 cR2 hO hM2 hj2 hj hg d0
      cases b with
      | true =>
        rw [Bool.true_or] at HO
        go_wp2_with fail
        go_roundg g2
        case measure => exact hg3
        case rel => exact ⟨⟨x0, x1, y0, y1, xs, hB⟩, M2, j2, true, hg2, rfl, rfl, rfl, HO.out⟩
      | false =>
        rw [Bool.false_or] at HO
        by_cases c2 : M % 2 = 1
        · have d2 : (((M % 2 : Nat) : Int) == 1) = true := by rw [c2]; rfl
          rw [decide_eq_true c2] at HO
          rw [c2] at e1 d2
          go_wp2_with fail
          go_roundg g2
          case measure => exact hg3
          case rel => exact ⟨⟨x0, x1, y0, y1, xs, hB⟩, M2, j2, true, hg2, rfl, rfl, rfl, HO.out⟩
        · have c3 : M % 2 = 0 := by omega
          rw [decide_eq_false c2] at HO
          rw [c3] at e1
          go_wp2_with fail
          go_roundg g2
          case measure => exact hg3
          case rel => exact ⟨⟨x0, x1, y0, y1, xs, hB⟩, M2, j2, false, hg2, rfl, rfl, rfl, HO.out⟩
    · have d1 : decide ((1152921504606846976 : Int) ≤ (M : Int)) = false := decide_eq_false (by omega)
      clear nx2 hO hg d0
      go_wp2_with (first | (go_at_call 75; (with_reducible refine (cR2 _).mono ?_); rintro e w3 ⟨rfl, hb3⟩))
      go_ret
      exact ⟨rfl, by repeat (first | (with_reducible exact Below.refl _ _) | (with_reducible refine below_alloc ?_ _) | (with_reducible refine below_drew1 ?_) | (with_reducible refine pw_below_drewN ?_ _) | (with_reducible refine below_set ?_ (by omega)) | (with_reducible refine below_step ?_ hb3) | (with_reducible refine below_step ?_ hb1) | exact hB)⟩
set_option maxRecDepth 100000 in
set_option maxHeartbeats 8000000 in
theorem os32_false (m0 : Nat) (h63 : m0 ≤ 9223372036854775807) (w : World) : Calls Try.prog 79 #[.agg #[.int .u64 8, .int .u64 23], .int .i64 (m0 : Int)] w fun en w' => en = .returned (.int .u32 (rnd32 false m0 0 false)) ∧ Below w.heap.size w w' := by
  have cR : ∀ (M j : Nat) (b : Bool), OK m0 M j b → ∀ w, Calls Try.prog 75 #[.agg #[.int .u64 8, .int .u64 23], .bool false, .int .u64 M, .int .i64 j, .bool b] w fun en w' => en = .returned (.int .u32 (rnd32 false m0 0 false)) ∧ Below w.heap.size w w' := by
    intro M j b hO w
    have hM : M ≤ m0 := by rw [hO.1]; exact Nat.div_le_self _ _
    have hj := hO.2.2.1
    have := rs32 false b M j (by omega) (by omega) (by omega) w
    rw [same32 false m0 M j b hO (by omega)] at this
    exact this
  have nx : ∀ (M j : Nat) (b : Bool), OK m0 M j b → 1152921504606846976 ≤ M → j < 4 ∧ OK m0 (M / 2) (j + 1) (b || decide (M % 2 = 1)) := fun M j b h hM => ok_next m0 M j b h (by omega) hM
  generalize rnd32 false m0 0 false = V at *
  have z0 : OK m0 m0 0 false := ok_zero m0
  have d0 : decide ((m0 : Int) < 0) = false := decide_eq_false (by omega)
  have hu : IntKind.u64.wrap (m0 : Int) = (m0 : Int) := by rw [IntKind.wrap_u64]; omega
  go_enter Try.func79, Try.ntmps79
  go_wp2_with fail
  go_loopg [6, 7, 8] 4 (fun g s6 s7 s8 wx => Cells32 w wx ∧ ∃ (M j : Nat) (b : Bool), g + j = 4 ∧ s6 = .int .u64 (M : Int) ∧ s7 = .int .i64 (j : Int) ∧ s8 = .bool b ∧ OK m0 M j b)
  case atStart => exact ⟨⟨by go_simp, by go_simp, by go_simp, by go_simp, by simp, by repeat (first | (with_reducible exact Below.refl _ _) | (with_reducible refine below_alloc ?_ _) | (with_reducible refine below_drew1 ?_) | (with_reducible refine pw_below_drewN ?_ _) | (with_reducible refine below_set ?_ (by omega)) | (with_reducible refine below_step ?_ hb3) | (with_reducible refine below_step ?_ hb1) | exact hB)⟩, m0, 0, false, rfl, rfl, rfl, rfl, z0⟩
  case round =>
    obtain ⟨⟨x0, x1, y0, y1, xs, hB⟩, M, j, b, hg, rfl, rfl, rfl, hO⟩ := hrel
    have cR2 := cR M j b hO
    have nx2 := nx M j b hO
    clear cR nx z0
    by_cases c1 : 1152921504606846976 ≤ M
    · have d1 : decide ((1152921504606846976 : Int) ≤ (M : Int)) = true := decide_eq_true (by omega)
      have e1 : bits .and .u64 (M : Int) 1 = ((M % 2 : Nat) : Int) := by rw [and_one .u64 (by decide)]; omega
      have e2 : (M : Int) / 2 = ((M / 2 : Nat) : Int) := by omega
      have hj : j < 4 ∧ Aside (OK m0 (M / 2) (j + 1) (b || decide (M % 2 = 1))) := ⟨(nx2 c1).1, (nx2 c1).2⟩
      obtain ⟨hj, HO⟩ := hj
      have e3 : IntKind.i64.wrap ((j : Int) + 1) = ((j + 1 : Nat) : Int) := by rw [IntKind.wrap_i64]; omega
      obtain ⟨M2, hM2⟩ : ∃ M2, M / 2 = M2 := ⟨_, rfl⟩
      obtain ⟨j2, hj2⟩ : ∃ j2, j + 1 = j2 := ⟨_, rfl⟩
      obtain ⟨g2, hg2⟩ : ∃ g2, g2 + j2 = 4 := ⟨4 - j2, by omega⟩
      have hg3 : g2 < gk := by omega
      rw [hM2] at e2 HO
      rw [hj2] at e3 HO
      clear nx2 cR2 hO hM2 hj2 hj hg d0
      cases b with
      | true =>
        rw [Bool.true_or] at HO
        go_wp2_with fail
        go_roundg g2
        case measure => exact hg3
        case rel => exact ⟨⟨x0, x1, y0, y1, xs, hB⟩, M2, j2, true, hg2, rfl, rfl, rfl, HO.out⟩
      | false =>
        rw [Bool.false_or] at HO
        by_cases c2 : M % 2 = 1
        · have d2 : (((M % 2 : Nat) : Int) == 1) = true := by rw [c2]; rfl
          rw [decide_eq_true c2] at HO
          rw [c2] at e1 d2
          go_wp2_with fail
          go_roundg g2
          case measure => exact hg3
          case rel => exact ⟨⟨x0, x1, y0, y1, xs, hB⟩, M2, j2, true, hg2, rfl, rfl, rfl, HO.out⟩
        · have c3 : M % 2 = 0 := by omega
          rw [decide_eq_false c2] at HO
          rw [c3] at e1
          go_wp2_with fail
          go_roundg g2
          case measure => exact hg3
          case rel => exact ⟨⟨x0, x1, y0, y1, xs, hB⟩, M2, j2, false, hg2, rfl, rfl, rfl, HO.out⟩
    · have d1 : decide ((1152921504606846976 : Int) ≤ (M : Int)) = false := decide_eq_false (by omega)
      clear nx2 hO hg d0
      go_wp2_with (first | (go_at_call 75; (with_reducible refine (cR2 _).mono ?_); rintro e w3 ⟨rfl, hb3⟩))
      go_ret
      exact ⟨rfl, by repeat (first | (with_reducible exact Below.refl _ _) | (with_reducible refine below_alloc ?_ _) | (with_reducible refine below_drew1 ?_) | (with_reducible refine pw_below_drewN ?_ _) | (with_reducible refine below_set ?_ (by omega)) | (with_reducible refine below_step ?_ hb3) | (with_reducible refine below_step ?_ hb1) | exact hB)⟩
set_option maxRecDepth 100000 in
set_option maxHeartbeats 8000000 in
theorem os32_true (m0 : Nat) (h63 : m0 ≤ 9223372036854775808) (h1 : 1 ≤ m0) (w : World) : Calls Try.prog 79 #[.agg #[.int .u64 8, .int .u64 23], .int .i64 (-(m0 : Int))] w fun en w' => en = .returned (.int .u32 (rnd32 true m0 0 false)) ∧ Below w.heap.size w w' := by
  have cR : ∀ (M j : Nat) (b : Bool), OK m0 M j b → ∀ w, Calls Try.prog 75 #[.agg #[.int .u64 8, .int .u64 23], .bool true, .int .u64 M, .int .i64 j, .bool b] w fun en w' => en = .returned (.int .u32 (rnd32 true m0 0 false)) ∧ Below w.heap.size w w' := by
    intro M j b hO w
    have hM : M ≤ m0 := by rw [hO.1]; exact Nat.div_le_self _ _
    have hj := hO.2.2.1
    have := rs32 true b M j (by omega) (by omega) (by omega) w
    rw [same32 true m0 M j b hO (by omega)] at this
    exact this
  have nx : ∀ (M j : Nat) (b : Bool), OK m0 M j b → 1152921504606846976 ≤ M → j < 4 ∧ OK m0 (M / 2) (j + 1) (b || decide (M % 2 = 1)) := fun M j b h hM => ok_next m0 M j b h (by omega) hM
  generalize rnd32 true m0 0 false = V at *
  have z0 : OK m0 m0 0 false := ok_zero m0
  have d0 : decide (-(m0 : Int) < 0) = true := decide_eq_true (by omega)
  obtain ⟨u, hu⟩ : ∃ u : Int, IntKind.u64.wrap (-(m0 : Int)) = u := ⟨_, rfl⟩
  have wu : IntKind.u64.wrap (-u) = (m0 : Int) := by rw [← hu]; simp only [IntKind.wrap_u64]; omega
  go_enter Try.func79, Try.ntmps79
  go_wp2_with fail
  go_loopg [6, 7, 8] 4 (fun g s6 s7 s8 wx => Cells32 w wx ∧ ∃ (M j : Nat) (b : Bool), g + j = 4 ∧ s6 = .int .u64 (M : Int) ∧ s7 = .int .i64 (j : Int) ∧ s8 = .bool b ∧ OK m0 M j b)
  case atStart => exact ⟨⟨by go_simp, by go_simp, by go_simp, by go_simp, by simp, by repeat (first | (with_reducible exact Below.refl _ _) | (with_reducible refine below_alloc ?_ _) | (with_reducible refine below_drew1 ?_) | (with_reducible refine pw_below_drewN ?_ _) | (with_reducible refine below_set ?_ (by omega)) | (with_reducible refine below_step ?_ hb3) | (with_reducible refine below_step ?_ hb1) | exact hB)⟩, m0, 0, false, rfl, rfl, rfl, rfl, z0⟩
  case round =>
    obtain ⟨⟨x0, x1, y0, y1, xs, hB⟩, M, j, b, hg, rfl, rfl, rfl, hO⟩ := hrel
    have cR2 := cR M j b hO
    have nx2 := nx M j b hO
    clear cR nx z0
    by_cases c1 : 1152921504606846976 ≤ M
    · have d1 : decide ((1152921504606846976 : Int) ≤ (M : Int)) = true := decide_eq_true (by omega)
      have e1 : bits .and .u64 (M : Int) 1 = ((M % 2 : Nat) : Int) := by rw [and_one .u64 (by decide)]; omega
      have e2 : (M : Int) / 2 = ((M / 2 : Nat) : Int) := by omega
      have hj : j < 4 ∧ Aside (OK m0 (M / 2) (j + 1) (b || decide (M % 2 = 1))) := ⟨(nx2 c1).1, (nx2 c1).2⟩
      obtain ⟨hj, HO⟩ := hj
      have e3 : IntKind.i64.wrap ((j : Int) + 1) = ((j + 1 : Nat) : Int) := by rw [IntKind.wrap_i64]; omega
      obtain ⟨M2, hM2⟩ : ∃ M2, M / 2 = M2 := ⟨_, rfl⟩
      obtain ⟨j2, hj2⟩ : ∃ j2, j + 1 = j2 := ⟨_, rfl⟩
      obtain ⟨g2, hg2⟩ : ∃ g2, g2 + j2 = 4 := ⟨4 - j2, by omega⟩
      have hg3 : g2 < gk := by omega
      rw [hM2] at e2 HO
      rw [hj2] at e3 HO
      clear nx2 cR2 hO hM2 hj2 hj hg d0
      cases b with
      | true =>
        rw [Bool.true_or] at HO
        go_wp2_with fail
        go_roundg g2
        case measure => exact hg3
        case rel => exact ⟨⟨x0, x1, y0, y1, xs, hB⟩, M2, j2, true, hg2, rfl, rfl, rfl, HO.out⟩
      | false =>
        rw [Bool.false_or] at HO
        by_cases c2 : M % 2 = 1
        · have d2 : (((M % 2 : Nat) : Int) == 1) = true := by rw [c2]; rfl
          rw [decide_eq_true c2] at HO
          rw [c2] at e1 d2
          go_wp2_with fail
          go_roundg g2
          case measure => exact hg3
          case rel => exact ⟨⟨x0, x1, y0, y1, xs, hB⟩, M2, j2, true, hg2, rfl, rfl, rfl, HO.out⟩
        · have c3 : M % 2 = 0 := by omega
          rw [decide_eq_false c2] at HO
          rw [c3] at e1
          go_wp2_with fail
          go_roundg g2
          case measure => exact hg3
          case rel => exact ⟨⟨x0, x1, y0, y1, xs, hB⟩, M2, j2, false, hg2, rfl, rfl, rfl, HO.out⟩
    · have d1 : decide ((1152921504606846976 : Int) ≤ (M : Int)) = false := decide_eq_false (by omega)
      clear nx2 hO hg d0
      go_wp2_with (first | (go_at_call 75; (with_reducible refine (cR2 _).mono ?_); rintro e w3 ⟨rfl, hb3⟩))
      go_ret
      exact ⟨rfl, by repeat (first | (with_reducible exact Below.refl _ _) | (with_reducible refine below_alloc ?_ _) | (with_reducible refine below_drew1 ?_) | (with_reducible refine pw_below_drewN ?_ _) | (with_reducible refine below_set ?_ (by omega)) | (with_reducible refine below_step ?_ hb3) | (with_reducible refine below_step ?_ hb1) | exact hB)⟩
set_option maxRecDepth 100000 in
set_option maxHeartbeats 8000000 in
theorem fs16_false (m0 : Nat) (h63 : m0 ≤ 9223372036854775807) (w : World) : Calls Try.prog 37 #[.int .i64 16, .int .i64 (m0 : Int)] w fun en w' => en = .returned (.int .u32 (rnd16 false m0 0 false)) ∧ Below w.heap.size w w' := by
  have ck := fun W => kind_s 16 W
  simp (config := { decide := true }) only [if_true, if_false, true_or, or_true, decide_true] at ck
  have c := fun W => os16_false m0 h63 W
  generalize rnd16 false m0 0 false = V at *
  go_enter Try.func37, Try.ntmps37
  go_wp2_with (first | (go_at_call 43; (with_reducible refine (ck _).mono ?_); rintro e w1 ⟨rfl, hb1⟩) | (go_at_call 79; (with_reducible refine (c _).mono ?_); rintro e w3 ⟨rfl, hb3⟩))
  go_ret
  exact ⟨rfl, by repeat (first | (with_reducible exact Below.refl _ _) | (with_reducible refine below_alloc ?_ _) | (with_reducible refine below_drew1 ?_) | (with_reducible refine pw_below_drewN ?_ _) | (with_reducible refine below_set ?_ (by omega)) | (with_reducible refine below_step ?_ hb3) | (with_reducible refine below_step ?_ hb1) | exact hB)⟩
set_option maxRecDepth 100000 in
set_option maxHeartbeats 8000000 in
theorem fi16_false (m0 : Nat) (h63 : m0 ≤ 9223372036854775807) (w : World) : Calls Try.prog 38 #[.int .i64 16, .int .i64 (m0 : Int)] w fun en w' => en = .returned (.int .u32 (rnd16 false m0 0 false)) ∧ Below w.heap.size w w' := by
  have ck := fun W => kind_i 16 W
  simp (config := { decide := true }) only [if_true, if_false, true_or, or_true, decide_true] at ck
  have d0 : decide ((m0 : Int) < 0) = false := decide_eq_false (by omega)
  have hu : IntKind.u64.wrap (m0 : Int) = (m0 : Int) := by rw [IntKind.wrap_u64]; omega
  by_cases c1 : m0 < 1152921504606846976
  · have c := fun W => ri16 false false m0 0 (by omega) (by omega) (by omega) (fun _ => c1) W
    generalize rnd16 false m0 0 false = V at *
    have d1 : decide ((m0 : Int) < 1152921504606846976) = true := decide_eq_true (by omega)
    have d2 : decide (m0 < 1152921504606846976) = true := decide_eq_true c1
    go_enter Try.func38, Try.ntmps38
    go_wp2_with (first | (go_at_call 47; (with_reducible refine (ck _).mono ?_); rintro e w1 ⟨rfl, hb1⟩) | (go_at_call 77; (with_reducible refine (c _).mono ?_); rintro e w3 ⟨rfl, hb3⟩))
    go_ret
    exact ⟨rfl, by repeat (first | (with_reducible exact Below.refl _ _) | (with_reducible refine below_alloc ?_ _) | (with_reducible refine below_drew1 ?_) | (with_reducible refine pw_below_drewN ?_ _) | (with_reducible refine below_set ?_ (by omega)) | (with_reducible refine below_step ?_ hb3) | (with_reducible refine below_step ?_ hb1) | exact hB)⟩
  · have c := fun W => ri16 false (decide (m0 % 16 ≠ 0)) (m0 / 16) 4 (by omega) (by omega) (by omega) (fun _ => by show m0 / 16 < 1152921504606846976; omega) W
    have s4 := same16 false m0 (m0 / 16) 4 _ (ok_four m0 (by omega)) (by omega)
    rw [show (((4 : Nat) : Int)) = 4 from rfl] at s4
    rw [s4] at c
    clear s4
    generalize rnd16 false m0 0 false = V at *
    have d1 : decide ((m0 : Int) < 1152921504606846976) = false := decide_eq_false (by omega)
    have d2 : decide (m0 < 1152921504606846976) = false := decide_eq_false c1
    have e1 : (m0 : Int) / 16 = ((m0 / 16 : Nat) : Int) := by omega
    have e2 : bits .and .u64 (m0 : Int) 15 = ((m0 % 16 : Nat) : Int) := by rw [show (15 : Int) = 2 ^ 4 - 1 by decide, Pl.and_mask .u64 4 (by decide) _]; omega
    generalize m0 / 16 = q at *
    generalize m0 % 16 = r at *
    by_cases c2 : r = 0
    · subst c2
      rw [decide_eq_false (by simp)] at c
      go_enter Try.func38, Try.ntmps38
      go_wp2_with (first | (go_at_call 47; (with_reducible refine (ck _).mono ?_); rintro e w1 ⟨rfl, hb1⟩) | (go_at_call 77; (with_reducible refine (c _).mono ?_); rintro e w3 ⟨rfl, hb3⟩))
      go_ret
      exact ⟨rfl, by repeat (first | (with_reducible exact Below.refl _ _) | (with_reducible refine below_alloc ?_ _) | (with_reducible refine below_drew1 ?_) | (with_reducible refine pw_below_drewN ?_ _) | (with_reducible refine below_set ?_ (by omega)) | (with_reducible refine below_step ?_ hb3) | (with_reducible refine below_step ?_ hb1) | exact hB)⟩
    · rw [decide_eq_true c2] at c
      have z1 : ((r : Int) != 0) = true := by simp [c2]
      have z2 : ((r : Int) == 0) = false := by simp [c2]
      go_enter Try.func38, Try.ntmps38
      go_wp2_with (first | (go_at_call 47; (with_reducible refine (ck _).mono ?_); rintro e w1 ⟨rfl, hb1⟩) | (go_at_call 77; (with_reducible refine (c _).mono ?_); rintro e w3 ⟨rfl, hb3⟩))
      go_ret
      exact ⟨rfl, by repeat (first | (with_reducible exact Below.refl _ _) | (with_reducible refine below_alloc ?_ _) | (with_reducible refine below_drew1 ?_) | (with_reducible refine pw_below_drewN ?_ _) | (with_reducible refine below_set ?_ (by omega)) | (with_reducible refine below_step ?_ hb3) | (with_reducible refine below_step ?_ hb1) | exact hB)⟩
set_option maxRecDepth 100000 in
set_option maxHeartbeats 8000000 in
theorem fs16_true (m0 : Nat) (h63 : m0 ≤ 9223372036854775808) (h1 : 1 ≤ m0) (w : World) : Calls Try.prog 37 #[.int .i64 16, .int .i64 (-(m0 : Int))] w fun en w' => en = .returned (.int .u32 (rnd16 true m0 0 false)) ∧ Below w.heap.size w w' := by
  have ck := fun W => kind_s 16 W
  simp (config := { decide := true }) only [if_true, if_false, true_or, or_true, decide_true] at ck
  have c := fun W => os16_true m0 h63 h1 W
  generalize rnd16 true m0 0 false = V at *
  go_enter Try.func37, Try.ntmps37
  go_wp2_with (first | (go_at_call 43; (with_reducible refine (ck _).mono ?_); rintro e w1 ⟨rfl, hb1⟩) | (go_at_call 79; (with_reducible refine (c _).mono ?_); rintro e w3 ⟨rfl, hb3⟩))
  go_ret
  exact ⟨rfl, by repeat (first | (with_reducible exact Below.refl _ _) | (with_reducible refine below_alloc ?_ _) | (with_reducible refine below_drew1 ?_) | (with_reducible refine pw_below_drewN ?_ _) | (with_reducible refine below_set ?_ (by omega)) | (with_reducible refine below_step ?_ hb3) | (with_reducible refine below_step ?_ hb1) | exact hB)⟩
set_option maxRecDepth 100000 in
set_option maxHeartbeats 8000000 in
theorem fi16_true (m0 : Nat) (h63 : m0 ≤ 9223372036854775808) (h1 : 1 ≤ m0) (w : World) : Calls Try.prog 38 #[.int .i64 16, .int .i64 (-(m0 : Int))] w fun en w' => en = .returned (.int .u32 (rnd16 true m0 0 false)) ∧ Below w.heap.size w w' := by
  have ck := fun W => kind_i 16 W
  simp (config := { decide := true }) only [if_true, if_false, true_or, or_true, decide_true] at ck
  have d0 : decide (-(m0 : Int) < 0) = true := decide_eq_true (by omega)
  obtain ⟨u, hu⟩ : ∃ u : Int, IntKind.u64.wrap (-(m0 : Int)) = u := ⟨_, rfl⟩
  have wu : IntKind.u64.wrap (-u) = (m0 : Int) := by rw [← hu]; simp only [IntKind.wrap_u64]; omega
  obtain ⟨n, hn⟩ : ∃ n : Int, -(m0 : Int) = n := ⟨_, rfl⟩
  have hn0 : n < 0 := by omega
  rw [hn] at d0 hu ⊢
  clear hn
  by_cases c1 : m0 < 1152921504606846976
  · have c := fun W => ri16 true false m0 0 (by omega) (by omega) (by omega) (fun _ => c1) W
    generalize rnd16 true m0 0 false = V at *
    have d1 : decide ((m0 : Int) < 1152921504606846976) = true := decide_eq_true (by omega)
    have d2 : decide (m0 < 1152921504606846976) = true := decide_eq_true c1
    go_enter Try.func38, Try.ntmps38
    go_wp2_with (first | (go_at_call 47; (with_reducible refine (ck _).mono ?_); rintro e w1 ⟨rfl, hb1⟩) | (go_at_call 77; (with_reducible refine (c _).mono ?_); rintro e w3 ⟨rfl, hb3⟩))
    go_ret
    exact ⟨rfl, by repeat (first | (with_reducible exact Below.refl _ _) | (with_reducible refine below_alloc ?_ _) | (with_reducible refine below_drew1 ?_) | (with_reducible refine pw_below_drewN ?_ _) | (with_reducible refine below_set ?_ (by omega)) | (with_reducible refine below_step ?_ hb3) | (with_reducible refine below_step ?_ hb1) | exact hB)⟩
  · have c := fun W => ri16 true (decide (m0 % 16 ≠ 0)) (m0 / 16) 4 (by omega) (by omega) (by omega) (fun _ => by show m0 / 16 < 1152921504606846976; omega) W
    have s4 := same16 true m0 (m0 / 16) 4 _ (ok_four m0 (by omega)) (by omega)
    rw [show (((4 : Nat) : Int)) = 4 from rfl] at s4
    rw [s4] at c
    clear s4
    generalize rnd16 true m0 0 false = V at *
    have d1 : decide ((m0 : Int) < 1152921504606846976) = false := decide_eq_false (by omega)
    have d2 : decide (m0 < 1152921504606846976) = false := decide_eq_false c1
    have e1 : (m0 : Int) / 16 = ((m0 / 16 : Nat) : Int) := by omega
    have e2 : bits .and .u64 (m0 : Int) 15 = ((m0 % 16 : Nat) : Int) := by rw [show (15 : Int) = 2 ^ 4 - 1 by decide, Pl.and_mask .u64 4 (by decide) _]; omega
    generalize m0 / 16 = q at *
    generalize m0 % 16 = r at *
    by_cases c2 : r = 0
    · subst c2
      rw [decide_eq_false (by simp)] at c
      go_enter Try.func38, Try.ntmps38
      go_wp2_with (first | (go_at_call 47; (with_reducible refine (ck _).mono ?_); rintro e w1 ⟨rfl, hb1⟩) | (go_at_call 77; (with_reducible refine (c _).mono ?_); rintro e w3 ⟨rfl, hb3⟩))
      go_ret
      exact ⟨rfl, by repeat (first | (with_reducible exact Below.refl _ _) | (with_reducible refine below_alloc ?_ _) | (with_reducible refine below_drew1 ?_) | (with_reducible refine pw_below_drewN ?_ _) | (with_reducible refine below_set ?_ (by omega)) | (with_reducible refine below_step ?_ hb3) | (with_reducible refine below_step ?_ hb1) | exact hB)⟩
    · rw [decide_eq_true c2] at c
      have z1 : ((r : Int) != 0) = true := by simp [c2]
      have z2 : ((r : Int) == 0) = false := by simp [c2]
      go_enter Try.func38, Try.ntmps38
      go_wp2_with (first | (go_at_call 47; (with_reducible refine (ck _).mono ?_); rintro e w1 ⟨rfl, hb1⟩) | (go_at_call 77; (with_reducible refine (c _).mono ?_); rintro e w3 ⟨rfl, hb3⟩))
      go_ret
      exact ⟨rfl, by repeat (first | (with_reducible exact Below.refl _ _) | (with_reducible refine below_alloc ?_ _) | (with_reducible refine below_drew1 ?_) | (with_reducible refine pw_below_drewN ?_ _) | (with_reducible refine below_set ?_ (by omega)) | (with_reducible refine below_step ?_ hb3) | (with_reducible refine below_step ?_ hb1) | exact hB)⟩
set_option maxRecDepth 100000 in
set_option maxHeartbeats 8000000 in
theorem fs32_false (m0 : Nat) (h63 : m0 ≤ 9223372036854775807) (w : World) : Calls Try.prog 37 #[.int .i64 32, .int .i64 (m0 : Int)] w fun en w' => en = .returned (.int .u32 (rnd32 false m0 0 false)) ∧ Below w.heap.size w w' := by
  have ck := fun W => kind_s 32 W
  simp (config := { decide := true }) only [if_true, if_false, true_or, or_true, decide_true] at ck
  have c := fun W => os32_false m0 h63 W
  generalize rnd32 false m0 0 false = V at *
  go_enter Try.func37, Try.ntmps37
  go_wp2_with (first | (go_at_call 43; (with_reducible refine (ck _).mono ?_); rintro e w1 ⟨rfl, hb1⟩) | (go_at_call 79; (with_reducible refine (c _).mono ?_); rintro e w3 ⟨rfl, hb3⟩))
  go_ret
  exact ⟨rfl, by repeat (first | (with_reducible exact Below.refl _ _) | (with_reducible refine below_alloc ?_ _) | (with_reducible refine below_drew1 ?_) | (with_reducible refine pw_below_drewN ?_ _) | (with_reducible refine below_set ?_ (by omega)) | (with_reducible refine below_step ?_ hb3) | (with_reducible refine below_step ?_ hb1) | exact hB)⟩
set_option maxRecDepth 100000 in
set_option maxHeartbeats 8000000 in
theorem fi32_false (m0 : Nat) (h63 : m0 ≤ 9223372036854775807) (w : World) : Calls Try.prog 38 #[.int .i64 32, .int .i64 (m0 : Int)] w fun en w' => en = .returned (.int .u32 (rnd32 false m0 0 false)) ∧ Below w.heap.size w w' := by
  have ck := fun W => kind_i 32 W
  simp (config := { decide := true }) only [if_true, if_false, true_or, or_true, decide_true] at ck
  have d0 : decide ((m0 : Int) < 0) = false := decide_eq_false (by omega)
  have hu : IntKind.u64.wrap (m0 : Int) = (m0 : Int) := by rw [IntKind.wrap_u64]; omega
  by_cases c1 : m0 < 1152921504606846976
  · have c := fun W => ri32 false false m0 0 (by omega) (by omega) (by omega) (fun _ => c1) W
    generalize rnd32 false m0 0 false = V at *
    have d1 : decide ((m0 : Int) < 1152921504606846976) = true := decide_eq_true (by omega)
    have d2 : decide (m0 < 1152921504606846976) = true := decide_eq_true c1
    go_enter Try.func38, Try.ntmps38
    go_wp2_with (first | (go_at_call 47; (with_reducible refine (ck _).mono ?_); rintro e w1 ⟨rfl, hb1⟩) | (go_at_call 77; (with_reducible refine (c _).mono ?_); rintro e w3 ⟨rfl, hb3⟩))
    go_ret
    exact ⟨rfl, by repeat (first | (with_reducible exact Below.refl _ _) | (with_reducible refine below_alloc ?_ _) | (with_reducible refine below_drew1 ?_) | (with_reducible refine pw_below_drewN ?_ _) | (with_reducible refine below_set ?_ (by omega)) | (with_reducible refine below_step ?_ hb3) | (with_reducible refine below_step ?_ hb1) | exact hB)⟩
  · have c := fun W => ri32 false (decide (m0 % 16 ≠ 0)) (m0 / 16) 4 (by omega) (by omega) (by omega) (fun _ => by show m0 / 16 < 1152921504606846976; omega) W
    have s4 := same32 false m0 (m0 / 16) 4 _ (ok_four m0 (by omega)) (by omega)
    rw [show (((4 : Nat) : Int)) = 4 from rfl] at s4
    rw [s4] at c
    clear s4
    generalize rnd32 false m0 0 false = V at *
    have d1 : decide ((m0 : Int) < 1152921504606846976) = false := decide_eq_false (by omega)
    have d2 : decide (m0 < 1152921504606846976) = false := decide_eq_false c1
    have e1 : (m0 : Int) / 16 = ((m0 / 16 : Nat) : Int) := by omega
    have e2 : bits .and .u64 (m0 : Int) 15 = ((m0 % 16 : Nat) : Int) := by rw [show (15 : Int) = 2 ^ 4 - 1 by decide, Pl.and_mask .u64 4 (by decide) _]; omega
    generalize m0 / 16 = q at *
    generalize m0 % 16 = r at *
    by_cases c2 : r = 0
    · subst c2
      rw [decide_eq_false (by simp)] at c
      go_enter Try.func38, Try.ntmps38
      go_wp2_with (first | (go_at_call 47; (with_reducible refine (ck _).mono ?_); rintro e w1 ⟨rfl, hb1⟩) | (go_at_call 77; (with_reducible refine (c _).mono ?_); rintro e w3 ⟨rfl, hb3⟩))
      go_ret
      exact ⟨rfl, by repeat (first | (with_reducible exact Below.refl _ _) | (with_reducible refine below_alloc ?_ _) | (with_reducible refine below_drew1 ?_) | (with_reducible refine pw_below_drewN ?_ _) | (with_reducible refine below_set ?_ (by omega)) | (with_reducible refine below_step ?_ hb3) | (with_reducible refine below_step ?_ hb1) | exact hB)⟩
    · rw [decide_eq_true c2] at c
      have z1 : ((r : Int) != 0) = true := by simp [c2]
      have z2 : ((r : Int) == 0) = false := by simp [c2]
      go_enter Try.func38, Try.ntmps38
      go_wp2_with (first | (go_at_call 47; (with_reducible refine (ck _).mono ?_); rintro e w1 ⟨rfl, hb1⟩) | (go_at_call 77; (with_reducible refine (c _).mono ?_); rintro e w3 ⟨rfl, hb3⟩))
      go_ret
      exact ⟨rfl, by repeat (first | (with_reducible exact Below.refl _ _) | (with_reducible refine below_alloc ?_ _) | (with_reducible refine below_drew1 ?_) | (with_reducible refine pw_below_drewN ?_ _) | (with_reducible refine below_set ?_ (by omega)) | (with_reducible refine below_step ?_ hb3) | (with_reducible refine below_step ?_ hb1) | exact hB)⟩
set_option maxRecDepth 100000 in
set_option maxHeartbeats 8000000 in
theorem fs32_true (m0 : Nat) (h63 : m0 ≤ 9223372036854775808) (h1 : 1 ≤ m0) (w : World) : Calls Try.prog 37 #[.int .i64 32, .int .i64 (-(m0 : Int))] w fun en w' => en = .returned (.int .u32 (rnd32 true m0 0 false)) ∧ Below w.heap.size w w' := by
  have ck := fun W => kind_s 32 W
  simp (config := { decide := true }) only [if_true, if_false, true_or, or_true, decide_true] at ck
  have c := fun W => os32_true m0 h63 h1 W
  generalize rnd32 true m0 0 false = V at *
  go_enter Try.func37, Try.ntmps37
  go_wp2_with (first | (go_at_call 43; (with_reducible refine (ck _).mono ?_); rintro e w1 ⟨rfl, hb1⟩) | (go_at_call 79; (with_reducible refine (c _).mono ?_); rintro e w3 ⟨rfl, hb3⟩))
  go_ret
  exact ⟨rfl, by repeat (first | (with_reducible exact Below.refl _ _) | (with_reducible refine below_alloc ?_ _) | (with_reducible refine below_drew1 ?_) | (with_reducible refine pw_below_drewN ?_ _) | (with_reducible refine below_set ?_ (by omega)) | (with_reducible refine below_step ?_ hb3) | (with_reducible refine below_step ?_ hb1) | exact hB)⟩
set_option maxRecDepth 100000 in
set_option maxHeartbeats 8000000 in
theorem fi32_true (m0 : Nat) (h63 : m0 ≤ 9223372036854775808) (h1 : 1 ≤ m0) (w : World) : Calls Try.prog 38 #[.int .i64 32, .int .i64 (-(m0 : Int))] w fun en w' => en = .returned (.int .u32 (rnd32 true m0 0 false)) ∧ Below w.heap.size w w' := by
  have ck := fun W => kind_i 32 W
  simp (config := { decide := true }) only [if_true, if_false, true_or, or_true, decide_true] at ck
  have d0 : decide (-(m0 : Int) < 0) = true := decide_eq_true (by omega)
  obtain ⟨u, hu⟩ : ∃ u : Int, IntKind.u64.wrap (-(m0 : Int)) = u := ⟨_, rfl⟩
  have wu : IntKind.u64.wrap (-u) = (m0 : Int) := by rw [← hu]; simp only [IntKind.wrap_u64]; omega
  obtain ⟨n, hn⟩ : ∃ n : Int, -(m0 : Int) = n := ⟨_, rfl⟩
  have hn0 : n < 0 := by omega
  rw [hn] at d0 hu ⊢
  clear hn
  by_cases c1 : m0 < 1152921504606846976
  · have c := fun W => ri32 true false m0 0 (by omega) (by omega) (by omega) (fun _ => c1) W
    generalize rnd32 true m0 0 false = V at *
    have d1 : decide ((m0 : Int) < 1152921504606846976) = true := decide_eq_true (by omega)
    have d2 : decide (m0 < 1152921504606846976) = true := decide_eq_true c1
    go_enter Try.func38, Try.ntmps38
    go_wp2_with (first | (go_at_call 47; (with_reducible refine (ck _).mono ?_); rintro e w1 ⟨rfl, hb1⟩) | (go_at_call 77; (with_reducible refine (c _).mono ?_); rintro e w3 ⟨rfl, hb3⟩))
    go_ret
    exact ⟨rfl, by repeat (first | (with_reducible exact Below.refl _ _) | (with_reducible refine below_alloc ?_ _) | (with_reducible refine below_drew1 ?_) | (with_reducible refine pw_below_drewN ?_ _) | (with_reducible refine below_set ?_ (by omega)) | (with_reducible refine below_step ?_ hb3) | (with_reducible refine below_step ?_ hb1) | exact hB)⟩
  · have c := fun W => ri32 true (decide (m0 % 16 ≠ 0)) (m0 / 16) 4 (by omega) (by omega) (by omega) (fun _ => by show m0 / 16 < 1152921504606846976; omega) W
    have s4 := same32 true m0 (m0 / 16) 4 _ (ok_four m0 (by omega)) (by omega)
    rw [show (((4 : Nat) : Int)) = 4 from rfl] at s4
    rw [s4] at c
    clear s4
    generalize rnd32 true m0 0 false = V at *
    have d1 : decide ((m0 : Int) < 1152921504606846976) = false := decide_eq_false (by omega)
    have d2 : decide (m0 < 1152921504606846976) = false := decide_eq_false c1
    have e1 : (m0 : Int) / 16 = ((m0 / 16 : Nat) : Int) := by omega
    have e2 : bits .and .u64 (m0 : Int) 15 = ((m0 % 16 : Nat) : Int) := by rw [show (15 : Int) = 2 ^ 4 - 1 by decide, Pl.and_mask .u64 4 (by decide) _]; omega
    generalize m0 / 16 = q at *
    generalize m0 % 16 = r at *
    by_cases c2 : r = 0
    · subst c2
      rw [decide_eq_false (by simp)] at c
      go_enter Try.func38, Try.ntmps38
      go_wp2_with (first | (go_at_call 47; (with_reducible refine (ck _).mono ?_); rintro e w1 ⟨rfl, hb1⟩) | (go_at_call 77; (with_reducible refine (c _).mono ?_); rintro e w3 ⟨rfl, hb3⟩))
      go_ret
      exact ⟨rfl, by repeat (first | (with_reducible exact Below.refl _ _) | (with_reducible refine below_alloc ?_ _) | (with_reducible refine below_drew1 ?_) | (with_reducible refine pw_below_drewN ?_ _) | (with_reducible refine below_set ?_ (by omega)) | (with_reducible refine below_step ?_ hb3) | (with_reducible refine below_step ?_ hb1) | exact hB)⟩
    · rw [decide_eq_true c2] at c
      have z1 : ((r : Int) != 0) = true := by simp [c2]
      have z2 : ((r : Int) == 0) = false := by simp [c2]
      go_enter Try.func38, Try.ntmps38
      go_wp2_with (first | (go_at_call 47; (with_reducible refine (ck _).mono ?_); rintro e w1 ⟨rfl, hb1⟩) | (go_at_call 77; (with_reducible refine (c _).mono ?_); rintro e w3 ⟨rfl, hb3⟩))
      go_ret
      exact ⟨rfl, by repeat (first | (with_reducible exact Below.refl _ _) | (with_reducible refine below_alloc ?_ _) | (with_reducible refine below_drew1 ?_) | (with_reducible refine pw_below_drewN ?_ _) | (with_reducible refine below_set ?_ (by omega)) | (with_reducible refine below_step ?_ hb3) | (with_reducible refine below_step ?_ hb1) | exact hB)⟩
set_option maxRecDepth 100000 in
set_option maxHeartbeats 8000000 in
theorem no_s (k n : Int) (h1 : k ≠ 16) (h2 : k ≠ 32) (w : World) : Calls Try.prog 37 #[.int .i64 k, .int .i64 n] w fun en w' => en = .returned (.int .u32 0) ∧ Below w.heap.size w w' := by
  have ck := fun W => kind_s k W
  simp only [if_neg h1, if_neg h2, decide_eq_false (show ¬ (k = 16 ∨ k = 32) from fun h => h.elim h1 h2)] at ck
  go_enter Try.func37, Try.ntmps37
  go_wp2_with (first | (go_at_call 43; (with_reducible refine (ck _).mono ?_); rintro e w1 ⟨rfl, hb1⟩))
  go_ret
  exact ⟨rfl, by repeat (first | (with_reducible exact Below.refl _ _) | (with_reducible refine below_alloc ?_ _) | (with_reducible refine below_drew1 ?_) | (with_reducible refine pw_below_drewN ?_ _) | (with_reducible refine below_set ?_ (by omega)) | (with_reducible refine below_step ?_ hb3) | (with_reducible refine below_step ?_ hb1) | exact hB)⟩
set_option maxRecDepth 100000 in
set_option maxHeartbeats 8000000 in
theorem no_i (k n : Int) (h1 : k ≠ 16) (h2 : k ≠ 32) (w : World) : Calls Try.prog 38 #[.int .i64 k, .int .i64 n] w fun en w' => en = .returned (.int .u32 0) ∧ Below w.heap.size w w' := by
  have ck := fun W => kind_i k W
  simp only [if_neg h1, if_neg h2, decide_eq_false (show ¬ (k = 16 ∨ k = 32) from fun h => h.elim h1 h2)] at ck
  go_enter Try.func38, Try.ntmps38
  go_wp2_with (first | (go_at_call 47; (with_reducible refine (ck _).mono ?_); rintro e w1 ⟨rfl, hb1⟩))
  go_ret
  exact ⟨rfl, by repeat (first | (with_reducible exact Below.refl _ _) | (with_reducible refine below_alloc ?_ _) | (with_reducible refine below_drew1 ?_) | (with_reducible refine pw_below_drewN ?_ _) | (with_reducible refine below_set ?_ (by omega)) | (with_reducible refine below_step ?_ hb3) | (with_reducible refine below_step ?_ hb1) | exact hB)⟩
theorem both (k n : Int) (h1 : -9223372036854775808 ≤ n) (h2 : n ≤ 9223372036854775807) : ∃ V : Int, (∀ w, Calls Try.prog 37 #[.int .i64 k, .int .i64 n] w fun en w' => en = .returned (.int .u32 V) ∧ Below w.heap.size w w') ∧ (∀ w, Calls Try.prog 38 #[.int .i64 k, .int .i64 n] w fun en w' => en = .returned (.int .u32 V) ∧ Below w.heap.size w w') := by
  by_cases k1 : k = 16
  · subst k1
    by_cases c : n < 0
    · obtain ⟨m, rfl⟩ : ∃ m : Nat, n = -(m : Int) := ⟨(-n).toNat, by omega⟩
      exact ⟨_, fun w => fs16_true m (by omega) (by omega) w, fun w => fi16_true m (by omega) (by omega) w⟩
    · obtain ⟨m, rfl⟩ : ∃ m : Nat, n = (m : Int) := ⟨n.toNat, by omega⟩
      exact ⟨_, fun w => fs16_false m (by omega) w, fun w => fi16_false m (by omega) w⟩
  · by_cases k2 : k = 32
    · subst k2
      by_cases c : n < 0
      · obtain ⟨m, rfl⟩ : ∃ m : Nat, n = -(m : Int) := ⟨(-n).toNat, by omega⟩
        exact ⟨_, fun w => fs32_true m (by omega) (by omega) w, fun w => fi32_true m (by omega) (by omega) w⟩
      · obtain ⟨m, rfl⟩ : ∃ m : Nat, n = (m : Int) := ⟨n.toNat, by omega⟩
        exact ⟨_, fun w => fs32_false m (by omega) w, fun w => fi32_false m (by omega) w⟩
    · exact ⟨_, fun w => no_s k n k1 k2 w, fun w => no_i k n k1 k2 w⟩
set_option maxRecDepth 100000 in
set_option maxHeartbeats 8000000 in
theorem law_FOfInt (k n : Int) (h1 : -9223372036854775808 ≤ n) (h2 : n ≤ 9223372036854775807) (w : World) : Calls Try.prog 11 #[.int .i64 k, .int .i64 n] w fun en w' => en = .returned (.bool true) ∧ Below w.heap.size w w' := by
  obtain ⟨V, ks, ki⟩ := both k n h1 h2
  go_enter Try.func11, Try.ntmps11
  go_wp2_with (first | (go_at_call 37; (with_reducible refine (ks _).mono ?_); rintro e w2 ⟨rfl, B2⟩) | (go_at_call 38; (with_reducible refine (ki _).mono ?_); rintro e w3 ⟨rfl, B3⟩))
  go_ret
  exact ⟨rfl, below_step B2 B3⟩
end Go.Proofs.Ytfmmmfddpfddoaa.OwnFoL
