-- PRINTED BY print.sh 35421559b90ae4d0a3588c463048766b98c2df88dd9212a6774a882060cdf62d: not written by this session
import Derived.Test.YtfncjcnlndoelaaPFnExactBinaryx0
namespace Go.Proofs.Ytfncjcnlndoelaa.PFnExactBinary
open Go.RowKit Go.Proofs.YtfncjcnlndoelaaW.PrintWords Go.Proofs.YtfncjcnlndoelaaW.PrintLast Go.Proofs.YtfncjcnlndoelaaW.PrintMore
attribute [local go_sem] max2_int min2_int max_two min_two max_three min_three max_four min_four   -- for this text's walks alone
set_option linter.unusedVariables false
set_option linter.unusedSimpArgs false

/-! ### spec_l3Bits: function 40 -/
def spec_l3Bits.f (a0 : Int) : Option (Bool) := if a0 = 32 then (some true) else (some (a0 == 64))
set_option maxHeartbeats 8000000 in
set_option maxRecDepth 100000 in
theorem spec_l3Bits.calls (a0 : Int) (r : Bool) (w : World) (h : spec_l3Bits.f a0 = some r) :
    Calls Try.prog 40 #[.int .i64 a0] w fun e w' => e = .returned (.bool r) ∧ Drawn0 w w' := by
  have H : (if a0 = 32 then (some true) else (some (a0 == 64))) = some r := h
  clear h
  by_cases c2 : a0 = 32
  · rw [if_pos c2] at H
    have c2b0 : (a0 == 32) = true := beq_iff_eq.mpr c2
    have c2b1 : (a0 != 32) = false := bne_eq_false_iff_eq.mpr c2
    clear c2
    obtain rfl := Option.some.inj H
    go_enter Try.func40, Try.ntmps40
    go_wp2
    go_ret
    exact ⟨by first | rfl | (simp; done) | (simp [*]; done), by repeat (first | exact Drawn0.refl _ | apply Drawn0.step)⟩
  · rw [if_neg c2] at H
    have c2b0 : (a0 == 32) = false := beq_eq_false_iff_ne.mpr c2
    have c2b1 : (a0 != 32) = true := bne_iff_ne.mpr c2
    obtain rfl := Option.some.inj H
    go_enter Try.func40, Try.ntmps40
    go_wp2
    go_ret
    exact ⟨by first | rfl | (simp; done) | (simp [*]; done), by repeat (first | exact Drawn0.refl _ | apply Drawn0.step)⟩

/-! ### spec_l3Mask: function 70 -/
def spec_l3Mask.f (a0 : Int) (a1 : Int) : Option (Int) := if a0 = 32 then (some (Go.bits .and .u64 a1 4294967295)) else (some a1)
set_option maxHeartbeats 8000000 in
set_option maxRecDepth 100000 in
theorem spec_l3Mask.calls (a0 : Int) (a1 : Int) (r : Int) (w : World) (h : spec_l3Mask.f a0 a1 = some r) :
    Calls Try.prog 70 #[.int .i64 a0, .int .u64 a1] w fun e w' => e = .returned (.int .u64 r) ∧ Drawn0 w w' := by
  have H : (if a0 = 32 then (some (Go.bits .and .u64 a1 4294967295)) else (some a1)) = some r := h
  clear h
  by_cases c3 : a0 = 32
  · rw [if_pos c3] at H
    have c3b0 : (a0 == 32) = true := beq_iff_eq.mpr c3
    have c3b1 : (a0 != 32) = false := bne_eq_false_iff_eq.mpr c3
    clear c3
    obtain rfl := Option.some.inj H
    go_enter Try.func70, Try.ntmps70
    go_wp2
    go_ret
    exact ⟨by first | rfl | (simp; done) | (simp [*]; done), by repeat (first | exact Drawn0.refl _ | apply Drawn0.step)⟩
  · rw [if_neg c3] at H
    have c3b0 : (a0 == 32) = false := beq_eq_false_iff_ne.mpr c3
    have c3b1 : (a0 != 32) = true := bne_iff_ne.mpr c3
    obtain rfl := Option.some.inj H
    go_enter Try.func70, Try.ntmps70
    go_wp2
    go_ret
    exact ⟨by first | rfl | (simp; done) | (simp [*]; done), by repeat (first | exact Drawn0.refl _ | apply Drawn0.step)⟩

/-! ### spec_l3Signed: function 71 -/
def spec_l3Signed.f (a0 : Int) (a1 : Int) : Option (Int) := if a0 = 32 then (some (wrap64 (wrap32 ((a1) % 4294967296)))) else (some (wrap64 (a1)))
set_option maxHeartbeats 8000000 in
set_option maxRecDepth 100000 in
theorem spec_l3Signed.calls (a0 : Int) (a1 : Int) (r : Int) (w : World) (h : spec_l3Signed.f a0 a1 = some r) :
    Calls Try.prog 71 #[.int .i64 a0, .int .u64 a1] w fun e w' => e = .returned (.int .i64 r) ∧ Drawn0 w w' := by
  have H : (if a0 = 32 then (some (wrap64 (wrap32 ((a1) % 4294967296)))) else (some (wrap64 (a1)))) = some r := h
  clear h
  by_cases c3 : a0 = 32
  · rw [if_pos c3] at H
    have c3b0 : (a0 == 32) = true := beq_iff_eq.mpr c3
    have c3b1 : (a0 != 32) = false := bne_eq_false_iff_eq.mpr c3
    clear c3
    obtain rfl := Option.some.inj H
    go_enter Try.func71, Try.ntmps71
    go_wp2
    go_ret
    exact ⟨by first | rfl | (simp; done) | (simp [*]; done), by repeat (first | exact Drawn0.refl _ | apply Drawn0.step)⟩
  · rw [if_neg c3] at H
    have c3b0 : (a0 == 32) = false := beq_eq_false_iff_ne.mpr c3
    have c3b1 : (a0 != 32) = true := bne_iff_ne.mpr c3
    obtain rfl := Option.some.inj H
    go_enter Try.func71, Try.ntmps71
    go_wp2
    go_ret
    exact ⟨by first | rfl | (simp; done) | (simp [*]; done), by repeat (first | exact Drawn0.refl _ | apply Drawn0.step)⟩

/-! ### spec_l3Divide: function 72 -/
def spec_l3Divide.f (a0 : Int) (a1 : Int) (a2 : Int) (a3 : Int) : Option (Int × Int) := if a3 = 0 then (some (0, 1)) else (if a1 = 5 then (some (IntKind.u64.wrap (Int.tdiv a2 a3), 0)) else (if a1 = 7 then (some (Int.tmod a2 a3, 0)) else ((spec_l3Signed.f a0 a2).bind fun t101 => ((spec_l3Signed.f a0 a3).bind fun t102 => (if t102 = (-1) then (if a1 = 6 then (some (0, 0)) else (if 0 ≤ (IntKind.u64.wrap (wrap64 (a0 - 1))) then (if a2 = (shl .u64 1 (IntKind.u64.wrap (wrap64 (a0 - 1)))) then (some (0, 2)) else ((spec_l3Mask.f a0 (IntKind.u64.wrap (-a2))).bind fun t103 => (some (t103, 0)))) else (none))) else (if a1 = 4 then (if t102 = 0 then (none) else ((spec_l3Mask.f a0 (IntKind.u64.wrap (wrap64 (Int.tdiv t101 t102)))).bind fun t104 => (some (t104, 0)))) else (if t102 = 0 then (none) else ((spec_l3Mask.f a0 (IntKind.u64.wrap (Int.tmod t101 t102))).bind fun t105 => (some (t105, 0))))))))))
set_option maxHeartbeats 8000000 in
set_option maxRecDepth 100000 in
theorem spec_l3Divide.calls (a0 : Int) (a1 : Int) (a2 : Int) (a3 : Int) (r1 : Int) (r2 : Int) (w : World) (h : spec_l3Divide.f a0 a1 a2 a3 = some (r1, r2)) :
    Calls Try.prog 72 #[.int .i64 a0, .int .i64 a1, .int .u64 a2, .int .u64 a3] w fun e w' => e = .returned (.tuple #[.int .u64 r1, .int .i64 r2]) ∧ Drawn0 w w' := by
  have H : (if a3 = 0 then (some (0, 1)) else (if a1 = 5 then (some (IntKind.u64.wrap (Int.tdiv a2 a3), 0)) else (if a1 = 7 then (some (Int.tmod a2 a3, 0)) else ((spec_l3Signed.f a0 a2).bind fun t101 => ((spec_l3Signed.f a0 a3).bind fun t102 => (if t102 = (-1) then (if a1 = 6 then (some (0, 0)) else (if 0 ≤ (IntKind.u64.wrap (wrap64 (a0 - 1))) then (if a2 = (shl .u64 1 (IntKind.u64.wrap (wrap64 (a0 - 1)))) then (some (0, 2)) else ((spec_l3Mask.f a0 (IntKind.u64.wrap (-a2))).bind fun t103 => (some (t103, 0)))) else (none))) else (if a1 = 4 then (if t102 = 0 then (none) else ((spec_l3Mask.f a0 (IntKind.u64.wrap (wrap64 (Int.tdiv t101 t102)))).bind fun t104 => (some (t104, 0)))) else (if t102 = 0 then (none) else ((spec_l3Mask.f a0 (IntKind.u64.wrap (Int.tmod t101 t102))).bind fun t105 => (some (t105, 0))))))))))) = some (r1, r2) := h
  clear h
  by_cases c5 : a3 = 0
  · rw [if_pos c5] at H
    have c5b0 : (a3 == 0) = true := beq_iff_eq.mpr c5
    have c5b1 : (a3 != 0) = false := bne_eq_false_iff_eq.mpr c5
    clear c5
    simp only [Option.some.injEq, Prod.mk.injEq] at H
    obtain ⟨rfl, rfl⟩ := H
    go_enter Try.func72, Try.ntmps72
    go_wp2
    go_ret2
    exact ⟨by first | rfl | (simp; done) | (simp [*]; done), by repeat (first | exact Drawn0.refl _ | apply Drawn0.step)⟩
  · rw [if_neg c5] at H
    have c5b0 : (a3 == 0) = false := beq_eq_false_iff_ne.mpr c5
    have c5b1 : (a3 != 0) = true := bne_iff_ne.mpr c5
    by_cases c6 : a1 = 5
    · rw [if_pos c6] at H
      have c6b0 : (a1 == 5) = true := beq_iff_eq.mpr c6
      have c6b1 : (a1 != 5) = false := bne_eq_false_iff_eq.mpr c6
      clear c6
      simp only [Option.some.injEq, Prod.mk.injEq] at H
      obtain ⟨rfl, rfl⟩ := H
      go_enter Try.func72, Try.ntmps72
      go_wp2
      go_ret2
      exact ⟨by first | rfl | (simp; done) | (simp [*]; done), by repeat (first | exact Drawn0.refl _ | apply Drawn0.step)⟩
    · rw [if_neg c6] at H
      have c6b0 : (a1 == 5) = false := beq_eq_false_iff_ne.mpr c6
      have c6b1 : (a1 != 5) = true := bne_iff_ne.mpr c6
      by_cases c7 : a1 = 7
      · rw [if_pos c7] at H
        have c7b0 : (a1 == 7) = true := beq_iff_eq.mpr c7
        have c7b1 : (a1 != 7) = false := bne_eq_false_iff_eq.mpr c7
        clear c7
        simp only [Option.some.injEq, Prod.mk.injEq] at H
        obtain ⟨rfl, rfl⟩ := H
        go_enter Try.func72, Try.ntmps72
        go_wp2
        go_ret2
        exact ⟨by first | rfl | (simp; done) | (simp [*]; done), by repeat (first | exact Drawn0.refl _ | apply Drawn0.step)⟩
      · rw [if_neg c7] at H
        have c7b0 : (a1 == 7) = false := beq_eq_false_iff_ne.mpr c7
        have c7b1 : (a1 != 7) = true := bne_iff_ne.mpr c7
        replace H := Option.bind_eq_some_iff.mp H
        obtain ⟨t101, A80, H⟩ := H
        replace H : ((spec_l3Signed.f a0 a3).bind fun t102 => (if t102 = (-1) then (if a1 = 6 then (some (0, 0)) else (if 0 ≤ (IntKind.u64.wrap (wrap64 (a0 - 1))) then (if a2 = (shl .u64 1 (IntKind.u64.wrap (wrap64 (a0 - 1)))) then (some (0, 2)) else ((spec_l3Mask.f a0 (IntKind.u64.wrap (-a2))).bind fun t103 => (some (t103, 0)))) else (none))) else (if a1 = 4 then (if t102 = 0 then (none) else ((spec_l3Mask.f a0 (IntKind.u64.wrap (wrap64 (Int.tdiv t101 t102)))).bind fun t104 => (some (t104, 0)))) else (if t102 = 0 then (none) else ((spec_l3Mask.f a0 (IntKind.u64.wrap (Int.tmod t101 t102))).bind fun t105 => (some (t105, 0))))))) = some (r1, r2) := H
        have A8 := Aside0.mk A80
        clear A80
        replace H := Option.bind_eq_some_iff.mp H
        obtain ⟨t102, A90, H⟩ := H
        replace H : (if t102 = (-1) then (if a1 = 6 then (some (0, 0)) else (if 0 ≤ (IntKind.u64.wrap (wrap64 (a0 - 1))) then (if a2 = (shl .u64 1 (IntKind.u64.wrap (wrap64 (a0 - 1)))) then (some (0, 2)) else ((spec_l3Mask.f a0 (IntKind.u64.wrap (-a2))).bind fun t103 => (some (t103, 0)))) else (none))) else (if a1 = 4 then (if t102 = 0 then (none) else ((spec_l3Mask.f a0 (IntKind.u64.wrap (wrap64 (Int.tdiv t101 t102)))).bind fun t104 => (some (t104, 0)))) else (if t102 = 0 then (none) else ((spec_l3Mask.f a0 (IntKind.u64.wrap (Int.tmod t101 t102))).bind fun t105 => (some (t105, 0)))))) = some (r1, r2) := H
        have A9 := Aside0.mk A90
        clear A90
        by_cases c10 : t102 = (-1)
        · rw [if_pos c10] at H
          have c10b0 : (t102 == (-1)) = true := beq_iff_eq.mpr c10
          have c10b1 : (t102 != (-1)) = false := bne_eq_false_iff_eq.mpr c10
          clear c10
          by_cases c11 : a1 = 6
          · rw [if_pos c11] at H
            have c11b0 : (a1 == 6) = true := beq_iff_eq.mpr c11
            have c11b1 : (a1 != 6) = false := bne_eq_false_iff_eq.mpr c11
            clear c11
            simp only [Option.some.injEq, Prod.mk.injEq] at H
            obtain ⟨rfl, rfl⟩ := H
            go_enter Try.func72, Try.ntmps72
            go_wp2_with (first | ((with_reducible refine gate_callee (f := 71) rfl ?_); refine goesL_ (some 27) rfl rfl Try.func71 (by kernel_rfl) rfl #[.int .i64 a0, .int .u64 a2] rfl (by (try simp only [List.map_toArray, List.map_cons, List.map_nil]); first | done | rfl | (simp only [List.length_drop, List.length_take]; rfl)) ?_; (with_reducible refine (spec_l3Signed.calls a0 a2 t101 _ A8.out).mono ?_); rintro e w' ⟨rfl, ⟨nd, rfl⟩⟩; refine ⟨_, rfl, ?_⟩) | ((with_reducible refine gate_callee (f := 71) rfl ?_); refine goesL_ (some 30) rfl rfl Try.func71 (by kernel_rfl) rfl #[.int .i64 a0, .int .u64 a3] rfl (by (try simp only [List.map_toArray, List.map_cons, List.map_nil]); first | done | rfl | (simp only [List.length_drop, List.length_take]; rfl)) ?_; (with_reducible refine (spec_l3Signed.calls a0 a3 t102 _ A9.out).mono ?_); rintro e w' ⟨rfl, ⟨nd, rfl⟩⟩; refine ⟨_, rfl, ?_⟩))
            go_ret2
            exact ⟨by first | rfl | (simp; done) | (simp [*]; done), by repeat (first | exact Drawn0.refl _ | apply Drawn0.step)⟩
          · rw [if_neg c11] at H
            have c11b0 : (a1 == 6) = false := beq_eq_false_iff_ne.mpr c11
            have c11b1 : (a1 != 6) = true := bne_iff_ne.mpr c11
            obtain ⟨ji12, hji12⟩ : ∃ j_ : Int, (IntKind.u64.wrap (wrap64 (a0 - 1))) = j_ := ⟨_, rfl⟩
            replace H : (if 0 ≤ (ji12) then (if a2 = (shl .u64 1 (ji12)) then (some (0, 2)) else ((spec_l3Mask.f a0 (IntKind.u64.wrap (-a2))).bind fun t103 => (some (t103, 0)))) else (none)) = some (r1, r2) := by first | (rw [hji12] at H; exact H) | (simp only [hji12] at H ⊢; exact H)
            (try rw [hji12] at A8)
            (try rw [hji12] at A9)
            by_cases c13 : 0 ≤ (ji12)
            · rw [if_pos c13] at H
              have c13b0 := eq_true c13
              have c13b1 : decide (0 ≤ (ji12)) = true := decide_eq_true c13
              clear c13
              obtain ⟨ji14, hji14⟩ : ∃ j_ : Int, (shl .u64 1 (ji12)) = j_ := ⟨_, rfl⟩
              replace H : (if a2 = (ji14) then (some (0, 2)) else ((spec_l3Mask.f a0 (IntKind.u64.wrap (-a2))).bind fun t103 => (some (t103, 0)))) = some (r1, r2) := by first | (rw [hji14] at H; exact H) | (simp only [hji14] at H ⊢; exact H)
              (try rw [hji14] at A8)
              (try rw [hji14] at A9)
              have hji14_ : (IntKind.u64.wrap (1 * 2 ^ min (ji12).toNat 64)) = ji14 := hji14
              have hji14z : (ji12) ≤ 64 → (IntKind.u64.wrap (1 * 2 ^ (ji12).toNat)) = ji14 := shl_small hji14
              have hji14u : (IntKind.u64.wrap (2 ^ min (ji12).toNat 64)) = ji14 := by have h_ := hji14_; rw [Int.one_mul] at h_; exact h_
              have hji14v : (ji12) ≤ 64 → (IntKind.u64.wrap (2 ^ (ji12).toNat)) = ji14 := fun hle_ => by have h_ := hji14z hle_; rw [Int.one_mul] at h_; exact h_
              by_cases c15 : a2 = (ji14)
              · rw [if_pos c15] at H
                have c15b0 : (a2 == (ji14)) = true := beq_iff_eq.mpr c15
                have c15b1 : (a2 != (ji14)) = false := bne_eq_false_iff_eq.mpr c15
                clear c15
                simp only [Option.some.injEq, Prod.mk.injEq] at H
                obtain ⟨rfl, rfl⟩ := H
                go_enter Try.func72, Try.ntmps72
                go_wp2_with (first | ((with_reducible refine gate_callee (f := 71) rfl ?_); refine goesL_ (some 27) rfl rfl Try.func71 (by kernel_rfl) rfl #[.int .i64 a0, .int .u64 a2] rfl (by (try simp only [List.map_toArray, List.map_cons, List.map_nil]); first | done | rfl | (simp only [List.length_drop, List.length_take]; rfl)) ?_; (with_reducible refine (spec_l3Signed.calls a0 a2 t101 _ A8.out).mono ?_); rintro e w' ⟨rfl, ⟨nd, rfl⟩⟩; refine ⟨_, rfl, ?_⟩) | ((with_reducible refine gate_callee (f := 71) rfl ?_); refine goesL_ (some 30) rfl rfl Try.func71 (by kernel_rfl) rfl #[.int .i64 a0, .int .u64 a3] rfl (by (try simp only [List.map_toArray, List.map_cons, List.map_nil]); first | done | rfl | (simp only [List.length_drop, List.length_take]; rfl)) ?_; (with_reducible refine (spec_l3Signed.calls a0 a3 t102 _ A9.out).mono ?_); rintro e w' ⟨rfl, ⟨nd, rfl⟩⟩; refine ⟨_, rfl, ?_⟩))
                go_ret2
                exact ⟨by first | rfl | (simp; done) | (simp only [← hji12, ← hji14] <;> (first | rfl | simp)) | (simp [*]; done), by repeat (first | exact Drawn0.refl _ | apply Drawn0.step)⟩
              · rw [if_neg c15] at H
                have c15b0 : (a2 == (ji14)) = false := beq_eq_false_iff_ne.mpr c15
                have c15b1 : (a2 != (ji14)) = true := bne_iff_ne.mpr c15
                replace H := Option.bind_eq_some_iff.mp H
                obtain ⟨t103, A160, H⟩ := H
                replace H : (some (t103, 0)) = some (r1, r2) := H
                have A16 := Aside0.mk A160
                clear A160
                simp only [Option.some.injEq, Prod.mk.injEq] at H
                obtain ⟨rfl, rfl⟩ := H
                go_enter Try.func72, Try.ntmps72
                go_wp2_with (first | ((with_reducible refine gate_callee (f := 71) rfl ?_); refine goesL_ (some 27) rfl rfl Try.func71 (by kernel_rfl) rfl #[.int .i64 a0, .int .u64 a2] rfl (by (try simp only [List.map_toArray, List.map_cons, List.map_nil]); first | done | rfl | (simp only [List.length_drop, List.length_take]; rfl)) ?_; (with_reducible refine (spec_l3Signed.calls a0 a2 t101 _ A8.out).mono ?_); rintro e w' ⟨rfl, ⟨nd, rfl⟩⟩; refine ⟨_, rfl, ?_⟩) | ((with_reducible refine gate_callee (f := 71) rfl ?_); refine goesL_ (some 30) rfl rfl Try.func71 (by kernel_rfl) rfl #[.int .i64 a0, .int .u64 a3] rfl (by (try simp only [List.map_toArray, List.map_cons, List.map_nil]); first | done | rfl | (simp only [List.length_drop, List.length_take]; rfl)) ?_; (with_reducible refine (spec_l3Signed.calls a0 a3 t102 _ A9.out).mono ?_); rintro e w' ⟨rfl, ⟨nd, rfl⟩⟩; refine ⟨_, rfl, ?_⟩) | ((with_reducible refine gate_callee (f := 70) rfl ?_); refine goesL_ (some 44) rfl rfl Try.func70 (by kernel_rfl) rfl #[.int .i64 a0, .int .u64 (IntKind.u64.wrap (-a2))] rfl (by (try simp only [List.map_toArray, List.map_cons, List.map_nil]); first | done | rfl | (simp only [List.length_drop, List.length_take]; rfl)) ?_; (with_reducible refine (spec_l3Mask.calls a0 (IntKind.u64.wrap (-a2)) t103 _ A16.out).mono ?_); rintro e w' ⟨rfl, ⟨nd, rfl⟩⟩; refine ⟨_, rfl, ?_⟩))
                go_ret2
                exact ⟨by first | rfl | (simp; done) | (simp only [← hji12, ← hji14] <;> (first | rfl | simp)) | (simp [*]; done), by repeat (first | exact Drawn0.refl _ | apply Drawn0.step)⟩
            · rw [if_neg c13] at H
              exact absurd H (by simp)
        · rw [if_neg c10] at H
          have c10b0 : (t102 == (-1)) = false := beq_eq_false_iff_ne.mpr c10
          have c10b1 : (t102 != (-1)) = true := bne_iff_ne.mpr c10
          by_cases c17 : a1 = 4
          · rw [if_pos c17] at H
            have c17b0 : (a1 == 4) = true := beq_iff_eq.mpr c17
            have c17b1 : (a1 != 4) = false := bne_eq_false_iff_eq.mpr c17
            clear c17
            by_cases c18 : t102 = 0
            · rw [if_pos c18] at H
              exact absurd H (by simp)
            · rw [if_neg c18] at H
              have c18b0 : (t102 == 0) = false := beq_eq_false_iff_ne.mpr c18
              have c18b1 : (t102 != 0) = true := bne_iff_ne.mpr c18
              replace H := Option.bind_eq_some_iff.mp H
              obtain ⟨t104, A190, H⟩ := H
              replace H : (some (t104, 0)) = some (r1, r2) := H
              have A19 := Aside0.mk A190
              clear A190
              simp only [Option.some.injEq, Prod.mk.injEq] at H
              obtain ⟨rfl, rfl⟩ := H
              go_enter Try.func72, Try.ntmps72
              go_wp2_with (first | ((with_reducible refine gate_callee (f := 71) rfl ?_); refine goesL_ (some 27) rfl rfl Try.func71 (by kernel_rfl) rfl #[.int .i64 a0, .int .u64 a2] rfl (by (try simp only [List.map_toArray, List.map_cons, List.map_nil]); first | done | rfl | (simp only [List.length_drop, List.length_take]; rfl)) ?_; (with_reducible refine (spec_l3Signed.calls a0 a2 t101 _ A8.out).mono ?_); rintro e w' ⟨rfl, ⟨nd, rfl⟩⟩; refine ⟨_, rfl, ?_⟩) | ((with_reducible refine gate_callee (f := 71) rfl ?_); refine goesL_ (some 30) rfl rfl Try.func71 (by kernel_rfl) rfl #[.int .i64 a0, .int .u64 a3] rfl (by (try simp only [List.map_toArray, List.map_cons, List.map_nil]); first | done | rfl | (simp only [List.length_drop, List.length_take]; rfl)) ?_; (with_reducible refine (spec_l3Signed.calls a0 a3 t102 _ A9.out).mono ?_); rintro e w' ⟨rfl, ⟨nd, rfl⟩⟩; refine ⟨_, rfl, ?_⟩) | ((with_reducible refine gate_callee (f := 70) rfl ?_); refine goesL_ (some 52) rfl rfl Try.func70 (by kernel_rfl) rfl #[.int .i64 a0, .int .u64 (IntKind.u64.wrap (wrap64 (Int.tdiv t101 t102)))] rfl (by (try simp only [List.map_toArray, List.map_cons, List.map_nil]); first | done | rfl | (simp only [List.length_drop, List.length_take]; rfl)) ?_; (with_reducible refine (spec_l3Mask.calls a0 (IntKind.u64.wrap (wrap64 (Int.tdiv t101 t102))) t104 _ A19.out).mono ?_); rintro e w' ⟨rfl, ⟨nd, rfl⟩⟩; refine ⟨_, rfl, ?_⟩))
              go_ret2
              exact ⟨by first | rfl | (simp; done) | (simp [*]; done), by repeat (first | exact Drawn0.refl _ | apply Drawn0.step)⟩
          · rw [if_neg c17] at H
            have c17b0 : (a1 == 4) = false := beq_eq_false_iff_ne.mpr c17
            have c17b1 : (a1 != 4) = true := bne_iff_ne.mpr c17
            by_cases c20 : t102 = 0
            · rw [if_pos c20] at H
              exact absurd H (by simp)
            · rw [if_neg c20] at H
              have c20b0 : (t102 == 0) = false := beq_eq_false_iff_ne.mpr c20
              have c20b1 : (t102 != 0) = true := bne_iff_ne.mpr c20
              replace H := Option.bind_eq_some_iff.mp H
              obtain ⟨t105, A210, H⟩ := H
              replace H : (some (t105, 0)) = some (r1, r2) := H
              have A21 := Aside0.mk A210
              clear A210
              simp only [Option.some.injEq, Prod.mk.injEq] at H
              obtain ⟨rfl, rfl⟩ := H
              go_enter Try.func72, Try.ntmps72
              go_wp2_with (first | ((with_reducible refine gate_callee (f := 71) rfl ?_); refine goesL_ (some 27) rfl rfl Try.func71 (by kernel_rfl) rfl #[.int .i64 a0, .int .u64 a2] rfl (by (try simp only [List.map_toArray, List.map_cons, List.map_nil]); first | done | rfl | (simp only [List.length_drop, List.length_take]; rfl)) ?_; (with_reducible refine (spec_l3Signed.calls a0 a2 t101 _ A8.out).mono ?_); rintro e w' ⟨rfl, ⟨nd, rfl⟩⟩; refine ⟨_, rfl, ?_⟩) | ((with_reducible refine gate_callee (f := 71) rfl ?_); refine goesL_ (some 30) rfl rfl Try.func71 (by kernel_rfl) rfl #[.int .i64 a0, .int .u64 a3] rfl (by (try simp only [List.map_toArray, List.map_cons, List.map_nil]); first | done | rfl | (simp only [List.length_drop, List.length_take]; rfl)) ?_; (with_reducible refine (spec_l3Signed.calls a0 a3 t102 _ A9.out).mono ?_); rintro e w' ⟨rfl, ⟨nd, rfl⟩⟩; refine ⟨_, rfl, ?_⟩) | ((with_reducible refine gate_callee (f := 70) rfl ?_); refine goesL_ (some 58) rfl rfl Try.func70 (by kernel_rfl) rfl #[.int .i64 a0, .int .u64 (IntKind.u64.wrap (Int.tmod t101 t102))] rfl (by (try simp only [List.map_toArray, List.map_cons, List.map_nil]); first | done | rfl | (simp only [List.length_drop, List.length_take]; rfl)) ?_; (with_reducible refine (spec_l3Mask.calls a0 (IntKind.u64.wrap (Int.tmod t101 t102)) t105 _ A21.out).mono ?_); rintro e w' ⟨rfl, ⟨nd, rfl⟩⟩; refine ⟨_, rfl, ?_⟩))
              go_ret2
              exact ⟨by first | rfl | (simp; done) | (simp [*]; done), by repeat (first | exact Drawn0.refl _ | apply Drawn0.step)⟩

/-! ### spec_l3Yes: function 73 -/
def spec_l3Yes.f (a0 : Bool) : Option (Int) := if a0 = true then (some 1) else (some 0)
set_option maxHeartbeats 8000000 in
set_option maxRecDepth 100000 in
theorem spec_l3Yes.calls (a0 : Bool) (r : Int) (w : World) (h : spec_l3Yes.f a0 = some r) :
    Calls Try.prog 73 #[.bool a0] w fun e w' => e = .returned (.int .u64 r) ∧ Drawn0 w w' := by
  have H : (if a0 = true then (some 1) else (some 0)) = some r := h
  clear h
  by_cases c2 : a0 = true
  · subst c2
    have H1 : (some 1) = some r := by rw [if_pos rfl] at H; exact H
    clear H
    have H := H1
    clear H1
    obtain rfl := Option.some.inj H
    go_enter Try.func73, Try.ntmps73
    go_wp2
    go_ret
    exact ⟨by first | rfl | (simp; done) | (simp [*]; done), by repeat (first | exact Drawn0.refl _ | apply Drawn0.step)⟩
  · replace c2 := Bool.eq_false_iff.mpr c2
    subst c2
    have H1 : (some 0) = some r := by rw [if_neg (show ¬ (false = true) by decide)] at H; exact H
    clear H
    have H := H1
    clear H1
    obtain rfl := Option.some.inj H
    go_enter Try.func73, Try.ntmps73
    go_wp2
    go_ret
    exact ⟨by first | rfl | (simp; done) | (simp [*]; done), by repeat (first | exact Drawn0.refl _ | apply Drawn0.step)⟩

/-! ### spec_l3Binary: function 41 -/
def spec_l3Binary.j0 : Nat → Int → Int → Int → Int → Int → Int → Int → Int → Bool → Option (Int × Int)
  | 0, _, _, _, _, _, _, _, _, _ => none
  | k + 1, x0, x1, x2, x3, x10, x11, x12, x30, x46 => if x46 = true then ((spec_l3Divide.f x0 x1 x2 x3).bind fun bt113 => (some (bt113.1, bt113.2))) else (if x30 = 8 then ((spec_l3Mask.f x0 (Go.bits .and .u64 x2 x3)).bind fun t115 => (some (t115, 0))) else (if x30 = 9 then ((spec_l3Mask.f x0 (Go.bits .or .u64 x2 x3)).bind fun t116 => (some (t116, 0))) else (if x30 = 10 then ((spec_l3Mask.f x0 (Go.bits .xor .u64 x2 x3)).bind fun t117 => (some (t117, 0))) else (if x30 = 11 then (if 0 ≤ x10 then ((spec_l3Mask.f x0 (shl .u64 x2 x10)).bind fun t118 => (some (t118, 0))) else (none)) else (if x30 = 13 then (if 0 ≤ x10 then ((spec_l3Mask.f x0 (shr .u64 x2 x10)).bind fun t119 => (some (t119, 0))) else (none)) else (if x30 = 12 then (if 0 ≤ x10 then ((spec_l3Mask.f x0 (IntKind.u64.wrap (shr .i64 x11 x10))).bind fun t120 => (some (t120, 0))) else (none)) else (if x30 = 14 then (if 0 ≤ x10 then (if 0 ≤ (IntKind.u64.wrap ((IntKind.u64.wrap (x0)) - x10)) then ((spec_l3Mask.f x0 (Go.bits .or .u64 (shl .u64 x2 x10) (shr .u64 x2 (IntKind.u64.wrap ((IntKind.u64.wrap (x0)) - x10))))).bind fun t121 => (some (t121, 0))) else (none)) else (none)) else (if x30 = 15 then (if 0 ≤ x10 then (if 0 ≤ (IntKind.u64.wrap ((IntKind.u64.wrap (x0)) - x10)) then ((spec_l3Mask.f x0 (Go.bits .or .u64 (shr .u64 x2 x10) (shl .u64 x2 (IntKind.u64.wrap ((IntKind.u64.wrap (x0)) - x10))))).bind fun t122 => (some (t122, 0))) else (none)) else (none)) else (if x30 = 16 then ((spec_l3Yes.f (x2 == x3)).bind fun t123 => ((spec_l3Mask.f x0 t123).bind fun t124 => (some (t124, 0)))) else (if x30 = 17 then ((spec_l3Yes.f (x2 != x3)).bind fun t125 => ((spec_l3Mask.f x0 t125).bind fun t126 => (some (t126, 0)))) else (if x30 = 18 then ((spec_l3Yes.f (decide (x11 < x12))).bind fun t127 => ((spec_l3Mask.f x0 t127).bind fun t128 => (some (t128, 0)))) else (if x30 = 19 then ((spec_l3Yes.f (decide (x2 < x3))).bind fun t129 => ((spec_l3Mask.f x0 t129).bind fun t130 => (some (t130, 0)))) else (if x30 = 20 then ((spec_l3Yes.f (decide (x11 > x12))).bind fun t131 => ((spec_l3Mask.f x0 t131).bind fun t132 => (some (t132, 0)))) else (if x30 = 21 then ((spec_l3Yes.f (decide (x2 > x3))).bind fun t133 => ((spec_l3Mask.f x0 t133).bind fun t134 => (some (t134, 0)))) else (some (0, 3))))))))))))))))
def spec_l3Binary.f (k : Nat) (a0 : Int) (a1 : Int) (a2 : Int) (a3 : Int) : Option (Int × Int) := (spec_l3Mask.f a0 a2).bind fun t106 => ((spec_l3Mask.f a0 a3).bind fun t107 => (if (IntKind.u64.wrap (a0)) = 0 then (none) else ((spec_l3Signed.f a0 t106).bind fun t108 => ((spec_l3Signed.f a0 t107).bind fun t109 => (if a1 = 1 then ((spec_l3Mask.f a0 (IntKind.u64.wrap (t106 + t107))).bind fun t110 => (some (t110, 0))) else (if a1 = 2 then ((spec_l3Mask.f a0 (IntKind.u64.wrap (t106 - t107))).bind fun t111 => (some (t111, 0))) else (if a1 = 3 then ((spec_l3Mask.f a0 (IntKind.u64.wrap (t106 * t107))).bind fun t112 => (some (t112, 0))) else (if a1 = 4 then (spec_l3Binary.j0 k a0 a1 t106 t107 (Int.tmod t107 (IntKind.u64.wrap (a0))) t108 t109 a1 (a1 == 4)) else (if a1 = 5 then (spec_l3Binary.j0 k a0 a1 t106 t107 (Int.tmod t107 (IntKind.u64.wrap (a0))) t108 t109 a1 (a1 == 5)) else (if a1 = 6 then (spec_l3Binary.j0 k a0 a1 t106 t107 (Int.tmod t107 (IntKind.u64.wrap (a0))) t108 t109 a1 (a1 == 6)) else (spec_l3Binary.j0 k a0 a1 t106 t107 (Int.tmod t107 (IntKind.u64.wrap (a0))) t108 t109 a1 (a1 == 7))))))))))))
theorem spec_l3Binary.mono_l : ∀ k, (∀ y0 y1 y2 y3 y4 y5 y6 y7 y8, LeO (spec_l3Binary.j0 k y0 y1 y2 y3 y4 y5 y6 y7 y8) (spec_l3Binary.j0 (k + 1) y0 y1 y2 y3 y4 y5 y6 y7 y8))
  | 0 => fun _ _ _ _ _ _ _ _ _ r h => by simp [spec_l3Binary.j0] at h
  | k + 1 => by
    have ih0 := spec_l3Binary.mono_l k
    · intro y0 y1 y2 y3 y4 y5 y6 y7 y8
      unfold spec_l3Binary.j0
      repeat' first
      | (with_reducible exact ih0 _ _ _ _ _ _ _ _ _)
      | (with_reducible exact LeO.refl _)
      | (with_reducible exact LeO.none _)
      | (with_reducible refine LeO.ite ?_ ?_)
      | (with_reducible refine LeO.bind ?_ (fun _ => ?_))
      | exact ih0 _ _ _ _ _ _ _ _ _
      | exact LeO.none _
      | refine LeO.ite ?_ ?_
      | refine LeO.bind ?_ (fun _ => ?_)
theorem spec_l3Binary.mono : ∀ a0 a1 a2 a3 k, LeO (spec_l3Binary.f k a0 a1 a2 a3) (spec_l3Binary.f (k + 1) a0 a1 a2 a3) := by
  intro a0 a1 a2 a3 k
  have ih0 := spec_l3Binary.mono_l k
  unfold spec_l3Binary.f
  repeat' first
      | (with_reducible exact ih0 _ _ _ _ _ _ _ _ _)
      | (with_reducible exact LeO.refl _)
      | (with_reducible exact LeO.none _)
      | (with_reducible refine LeO.ite ?_ ?_)
      | (with_reducible refine LeO.bind ?_ (fun _ => ?_))
      | exact ih0 _ _ _ _ _ _ _ _ _
      | exact LeO.none _
      | refine LeO.ite ?_ ?_
      | refine LeO.bind ?_ (fun _ => ?_)
set_option maxHeartbeats 8000000 in
set_option maxRecDepth 100000 in
theorem spec_l3Binary.calls (k : Nat) (a0 : Int) (a1 : Int) (a2 : Int) (a3 : Int) (r1 : Int) (r2 : Int) (w : World) (h : spec_l3Binary.f k a0 a1 a2 a3 = some (r1, r2)) :
    Calls Try.prog 41 #[.int .i64 a0, .int .i64 a1, .int .u64 a2, .int .u64 a3] w fun e w' => e = .returned (.tuple #[.int .u64 r1, .int .i64 r2]) ∧ Drawn0 w w' := by
  have H : ((spec_l3Mask.f a0 a2).bind fun t106 => ((spec_l3Mask.f a0 a3).bind fun t107 => (if (IntKind.u64.wrap (a0)) = 0 then (none) else ((spec_l3Signed.f a0 t106).bind fun t108 => ((spec_l3Signed.f a0 t107).bind fun t109 => (if a1 = 1 then ((spec_l3Mask.f a0 (IntKind.u64.wrap (t106 + t107))).bind fun t110 => (some (t110, 0))) else (if a1 = 2 then ((spec_l3Mask.f a0 (IntKind.u64.wrap (t106 - t107))).bind fun t111 => (some (t111, 0))) else (if a1 = 3 then ((spec_l3Mask.f a0 (IntKind.u64.wrap (t106 * t107))).bind fun t112 => (some (t112, 0))) else (if a1 = 4 then (spec_l3Binary.j0 k a0 a1 t106 t107 (Int.tmod t107 (IntKind.u64.wrap (a0))) t108 t109 a1 (a1 == 4)) else (if a1 = 5 then (spec_l3Binary.j0 k a0 a1 t106 t107 (Int.tmod t107 (IntKind.u64.wrap (a0))) t108 t109 a1 (a1 == 5)) else (if a1 = 6 then (spec_l3Binary.j0 k a0 a1 t106 t107 (Int.tmod t107 (IntKind.u64.wrap (a0))) t108 t109 a1 (a1 == 6)) else (spec_l3Binary.j0 k a0 a1 t106 t107 (Int.tmod t107 (IntKind.u64.wrap (a0))) t108 t109 a1 (a1 == 7))))))))))))) = some (r1, r2) := h
  clear h
  replace H := Option.bind_eq_some_iff.mp H
  obtain ⟨t106, A50, H⟩ := H
  replace H : ((spec_l3Mask.f a0 a3).bind fun t107 => (if (IntKind.u64.wrap (a0)) = 0 then (none) else ((spec_l3Signed.f a0 t106).bind fun t108 => ((spec_l3Signed.f a0 t107).bind fun t109 => (if a1 = 1 then ((spec_l3Mask.f a0 (IntKind.u64.wrap (t106 + t107))).bind fun t110 => (some (t110, 0))) else (if a1 = 2 then ((spec_l3Mask.f a0 (IntKind.u64.wrap (t106 - t107))).bind fun t111 => (some (t111, 0))) else (if a1 = 3 then ((spec_l3Mask.f a0 (IntKind.u64.wrap (t106 * t107))).bind fun t112 => (some (t112, 0))) else (if a1 = 4 then (spec_l3Binary.j0 k a0 a1 t106 t107 (Int.tmod t107 (IntKind.u64.wrap (a0))) t108 t109 a1 (a1 == 4)) else (if a1 = 5 then (spec_l3Binary.j0 k a0 a1 t106 t107 (Int.tmod t107 (IntKind.u64.wrap (a0))) t108 t109 a1 (a1 == 5)) else (if a1 = 6 then (spec_l3Binary.j0 k a0 a1 t106 t107 (Int.tmod t107 (IntKind.u64.wrap (a0))) t108 t109 a1 (a1 == 6)) else (spec_l3Binary.j0 k a0 a1 t106 t107 (Int.tmod t107 (IntKind.u64.wrap (a0))) t108 t109 a1 (a1 == 7)))))))))))) = some (r1, r2) := H
  have A5 := Aside0.mk A50
  clear A50
  replace H := Option.bind_eq_some_iff.mp H
  obtain ⟨t107, A60, H⟩ := H
  replace H : (if (IntKind.u64.wrap (a0)) = 0 then (none) else ((spec_l3Signed.f a0 t106).bind fun t108 => ((spec_l3Signed.f a0 t107).bind fun t109 => (if a1 = 1 then ((spec_l3Mask.f a0 (IntKind.u64.wrap (t106 + t107))).bind fun t110 => (some (t110, 0))) else (if a1 = 2 then ((spec_l3Mask.f a0 (IntKind.u64.wrap (t106 - t107))).bind fun t111 => (some (t111, 0))) else (if a1 = 3 then ((spec_l3Mask.f a0 (IntKind.u64.wrap (t106 * t107))).bind fun t112 => (some (t112, 0))) else (if a1 = 4 then (spec_l3Binary.j0 k a0 a1 t106 t107 (Int.tmod t107 (IntKind.u64.wrap (a0))) t108 t109 a1 (a1 == 4)) else (if a1 = 5 then (spec_l3Binary.j0 k a0 a1 t106 t107 (Int.tmod t107 (IntKind.u64.wrap (a0))) t108 t109 a1 (a1 == 5)) else (if a1 = 6 then (spec_l3Binary.j0 k a0 a1 t106 t107 (Int.tmod t107 (IntKind.u64.wrap (a0))) t108 t109 a1 (a1 == 6)) else (spec_l3Binary.j0 k a0 a1 t106 t107 (Int.tmod t107 (IntKind.u64.wrap (a0))) t108 t109 a1 (a1 == 7))))))))))) = some (r1, r2) := H
  have A6 := Aside0.mk A60
  clear A60
  by_cases c7 : (IntKind.u64.wrap (a0)) = 0
  · rw [if_pos c7] at H
    exact absurd H (by simp)
  · rw [if_neg c7] at H
    have c7b0 : ((IntKind.u64.wrap (a0)) == 0) = false := beq_eq_false_iff_ne.mpr c7
    have c7b1 : ((IntKind.u64.wrap (a0)) != 0) = true := bne_iff_ne.mpr c7
    replace H := Option.bind_eq_some_iff.mp H
    obtain ⟨t108, A80, H⟩ := H
    replace H : ((spec_l3Signed.f a0 t107).bind fun t109 => (if a1 = 1 then ((spec_l3Mask.f a0 (IntKind.u64.wrap (t106 + t107))).bind fun t110 => (some (t110, 0))) else (if a1 = 2 then ((spec_l3Mask.f a0 (IntKind.u64.wrap (t106 - t107))).bind fun t111 => (some (t111, 0))) else (if a1 = 3 then ((spec_l3Mask.f a0 (IntKind.u64.wrap (t106 * t107))).bind fun t112 => (some (t112, 0))) else (if a1 = 4 then (spec_l3Binary.j0 k a0 a1 t106 t107 (Int.tmod t107 (IntKind.u64.wrap (a0))) t108 t109 a1 (a1 == 4)) else (if a1 = 5 then (spec_l3Binary.j0 k a0 a1 t106 t107 (Int.tmod t107 (IntKind.u64.wrap (a0))) t108 t109 a1 (a1 == 5)) else (if a1 = 6 then (spec_l3Binary.j0 k a0 a1 t106 t107 (Int.tmod t107 (IntKind.u64.wrap (a0))) t108 t109 a1 (a1 == 6)) else (spec_l3Binary.j0 k a0 a1 t106 t107 (Int.tmod t107 (IntKind.u64.wrap (a0))) t108 t109 a1 (a1 == 7))))))))) = some (r1, r2) := H
    have A8 := Aside0.mk A80
    clear A80
    replace H := Option.bind_eq_some_iff.mp H
    obtain ⟨t109, A90, H⟩ := H
    replace H : (if a1 = 1 then ((spec_l3Mask.f a0 (IntKind.u64.wrap (t106 + t107))).bind fun t110 => (some (t110, 0))) else (if a1 = 2 then ((spec_l3Mask.f a0 (IntKind.u64.wrap (t106 - t107))).bind fun t111 => (some (t111, 0))) else (if a1 = 3 then ((spec_l3Mask.f a0 (IntKind.u64.wrap (t106 * t107))).bind fun t112 => (some (t112, 0))) else (if a1 = 4 then (spec_l3Binary.j0 k a0 a1 t106 t107 (Int.tmod t107 (IntKind.u64.wrap (a0))) t108 t109 a1 (a1 == 4)) else (if a1 = 5 then (spec_l3Binary.j0 k a0 a1 t106 t107 (Int.tmod t107 (IntKind.u64.wrap (a0))) t108 t109 a1 (a1 == 5)) else (if a1 = 6 then (spec_l3Binary.j0 k a0 a1 t106 t107 (Int.tmod t107 (IntKind.u64.wrap (a0))) t108 t109 a1 (a1 == 6)) else (spec_l3Binary.j0 k a0 a1 t106 t107 (Int.tmod t107 (IntKind.u64.wrap (a0))) t108 t109 a1 (a1 == 7)))))))) = some (r1, r2) := H
    have A9 := Aside0.mk A90
    clear A90
    by_cases c10 : a1 = 1
    · rw [if_pos c10] at H
      have c10b0 : (a1 == 1) = true := beq_iff_eq.mpr c10
      have c10b1 : (a1 != 1) = false := bne_eq_false_iff_eq.mpr c10
      clear c10
      replace H := Option.bind_eq_some_iff.mp H
      obtain ⟨t110, A110, H⟩ := H
      replace H : (some (t110, 0)) = some (r1, r2) := H
      have A11 := Aside0.mk A110
      clear A110
      simp only [Option.some.injEq, Prod.mk.injEq] at H
      obtain ⟨rfl, rfl⟩ := H
      go_enter Try.func41, Try.ntmps41
      go_wp2_with (first | ((with_reducible refine gate_callee (f := 70) rfl ?_); refine goesL_ (some 16) rfl rfl Try.func70 (by kernel_rfl) rfl #[.int .i64 a0, .int .u64 a2] rfl (by (try simp only [List.map_toArray, List.map_cons, List.map_nil]); first | done | rfl | (simp only [List.length_drop, List.length_take]; rfl)) ?_; (with_reducible refine (spec_l3Mask.calls a0 a2 t106 _ A5.out).mono ?_); rintro e w' ⟨rfl, ⟨nd, rfl⟩⟩; refine ⟨_, rfl, ?_⟩) | ((with_reducible refine gate_callee (f := 70) rfl ?_); refine goesL_ (some 19) rfl rfl Try.func70 (by kernel_rfl) rfl #[.int .i64 a0, .int .u64 a3] rfl (by (try simp only [List.map_toArray, List.map_cons, List.map_nil]); first | done | rfl | (simp only [List.length_drop, List.length_take]; rfl)) ?_; (with_reducible refine (spec_l3Mask.calls a0 a3 t107 _ A6.out).mono ?_); rintro e w' ⟨rfl, ⟨nd, rfl⟩⟩; refine ⟨_, rfl, ?_⟩) | ((with_reducible refine gate_callee (f := 71) rfl ?_); refine goesL_ (some 26) rfl rfl Try.func71 (by kernel_rfl) rfl #[.int .i64 a0, .int .u64 t106] rfl (by (try simp only [List.map_toArray, List.map_cons, List.map_nil]); first | done | rfl | (simp only [List.length_drop, List.length_take]; rfl)) ?_; (with_reducible refine (spec_l3Signed.calls a0 t106 t108 _ A8.out).mono ?_); rintro e w' ⟨rfl, ⟨nd, rfl⟩⟩; refine ⟨_, rfl, ?_⟩) | ((with_reducible refine gate_callee (f := 71) rfl ?_); refine goesL_ (some 29) rfl rfl Try.func71 (by kernel_rfl) rfl #[.int .i64 a0, .int .u64 t107] rfl (by (try simp only [List.map_toArray, List.map_cons, List.map_nil]); first | done | rfl | (simp only [List.length_drop, List.length_take]; rfl)) ?_; (with_reducible refine (spec_l3Signed.calls a0 t107 t109 _ A9.out).mono ?_); rintro e w' ⟨rfl, ⟨nd, rfl⟩⟩; refine ⟨_, rfl, ?_⟩) | ((with_reducible refine gate_callee (f := 70) rfl ?_); refine goesL_ (some 151) rfl rfl Try.func70 (by kernel_rfl) rfl #[.int .i64 a0, .int .u64 (IntKind.u64.wrap (t106 + t107))] rfl (by (try simp only [List.map_toArray, List.map_cons, List.map_nil]); first | done | rfl | (simp only [List.length_drop, List.length_take]; rfl)) ?_; (with_reducible refine (spec_l3Mask.calls a0 (IntKind.u64.wrap (t106 + t107)) t110 _ A11.out).mono ?_); rintro e w' ⟨rfl, ⟨nd, rfl⟩⟩; refine ⟨_, rfl, ?_⟩))
      go_ret2
      exact ⟨by first | rfl | (simp; done) | (simp [*]; done), by repeat (first | exact Drawn0.refl _ | apply Drawn0.step)⟩
    · rw [if_neg c10] at H
      have c10b0 : (a1 == 1) = false := beq_eq_false_iff_ne.mpr c10
      have c10b1 : (a1 != 1) = true := bne_iff_ne.mpr c10
      by_cases c12 : a1 = 2
      · rw [if_pos c12] at H
        have c12b0 : (a1 == 2) = true := beq_iff_eq.mpr c12
        have c12b1 : (a1 != 2) = false := bne_eq_false_iff_eq.mpr c12
        clear c12
        replace H := Option.bind_eq_some_iff.mp H
        obtain ⟨t111, A130, H⟩ := H
        replace H : (some (t111, 0)) = some (r1, r2) := H
        have A13 := Aside0.mk A130
        clear A130
        simp only [Option.some.injEq, Prod.mk.injEq] at H
        obtain ⟨rfl, rfl⟩ := H
        go_enter Try.func41, Try.ntmps41
        go_wp2_with (first | ((with_reducible refine gate_callee (f := 70) rfl ?_); refine goesL_ (some 16) rfl rfl Try.func70 (by kernel_rfl) rfl #[.int .i64 a0, .int .u64 a2] rfl (by (try simp only [List.map_toArray, List.map_cons, List.map_nil]); first | done | rfl | (simp only [List.length_drop, List.length_take]; rfl)) ?_; (with_reducible refine (spec_l3Mask.calls a0 a2 t106 _ A5.out).mono ?_); rintro e w' ⟨rfl, ⟨nd, rfl⟩⟩; refine ⟨_, rfl, ?_⟩) | ((with_reducible refine gate_callee (f := 70) rfl ?_); refine goesL_ (some 19) rfl rfl Try.func70 (by kernel_rfl) rfl #[.int .i64 a0, .int .u64 a3] rfl (by (try simp only [List.map_toArray, List.map_cons, List.map_nil]); first | done | rfl | (simp only [List.length_drop, List.length_take]; rfl)) ?_; (with_reducible refine (spec_l3Mask.calls a0 a3 t107 _ A6.out).mono ?_); rintro e w' ⟨rfl, ⟨nd, rfl⟩⟩; refine ⟨_, rfl, ?_⟩) | ((with_reducible refine gate_callee (f := 71) rfl ?_); refine goesL_ (some 26) rfl rfl Try.func71 (by kernel_rfl) rfl #[.int .i64 a0, .int .u64 t106] rfl (by (try simp only [List.map_toArray, List.map_cons, List.map_nil]); first | done | rfl | (simp only [List.length_drop, List.length_take]; rfl)) ?_; (with_reducible refine (spec_l3Signed.calls a0 t106 t108 _ A8.out).mono ?_); rintro e w' ⟨rfl, ⟨nd, rfl⟩⟩; refine ⟨_, rfl, ?_⟩) | ((with_reducible refine gate_callee (f := 71) rfl ?_); refine goesL_ (some 29) rfl rfl Try.func71 (by kernel_rfl) rfl #[.int .i64 a0, .int .u64 t107] rfl (by (try simp only [List.map_toArray, List.map_cons, List.map_nil]); first | done | rfl | (simp only [List.length_drop, List.length_take]; rfl)) ?_; (with_reducible refine (spec_l3Signed.calls a0 t107 t109 _ A9.out).mono ?_); rintro e w' ⟨rfl, ⟨nd, rfl⟩⟩; refine ⟨_, rfl, ?_⟩) | ((with_reducible refine gate_callee (f := 70) rfl ?_); refine goesL_ (some 151) rfl rfl Try.func70 (by kernel_rfl) rfl #[.int .i64 a0, .int .u64 (IntKind.u64.wrap (t106 - t107))] rfl (by (try simp only [List.map_toArray, List.map_cons, List.map_nil]); first | done | rfl | (simp only [List.length_drop, List.length_take]; rfl)) ?_; (with_reducible refine (spec_l3Mask.calls a0 (IntKind.u64.wrap (t106 - t107)) t111 _ A13.out).mono ?_); rintro e w' ⟨rfl, ⟨nd, rfl⟩⟩; refine ⟨_, rfl, ?_⟩))
        go_ret2
        exact ⟨by first | rfl | (simp; done) | (simp [*]; done), by repeat (first | exact Drawn0.refl _ | apply Drawn0.step)⟩
      · rw [if_neg c12] at H
        have c12b0 : (a1 == 2) = false := beq_eq_false_iff_ne.mpr c12
        have c12b1 : (a1 != 2) = true := bne_iff_ne.mpr c12
        by_cases c14 : a1 = 3
        · rw [if_pos c14] at H
          have c14b0 : (a1 == 3) = true := beq_iff_eq.mpr c14
          have c14b1 : (a1 != 3) = false := bne_eq_false_iff_eq.mpr c14
          clear c14
          replace H := Option.bind_eq_some_iff.mp H
          obtain ⟨t112, A150, H⟩ := H
          replace H : (some (t112, 0)) = some (r1, r2) := H
          have A15 := Aside0.mk A150
          clear A150
          simp only [Option.some.injEq, Prod.mk.injEq] at H
          obtain ⟨rfl, rfl⟩ := H
          go_enter Try.func41, Try.ntmps41
          go_wp2_with (first | ((with_reducible refine gate_callee (f := 70) rfl ?_); refine goesL_ (some 16) rfl rfl Try.func70 (by kernel_rfl) rfl #[.int .i64 a0, .int .u64 a2] rfl (by (try simp only [List.map_toArray, List.map_cons, List.map_nil]); first | done | rfl | (simp only [List.length_drop, List.length_take]; rfl)) ?_; (with_reducible refine (spec_l3Mask.calls a0 a2 t106 _ A5.out).mono ?_); rintro e w' ⟨rfl, ⟨nd, rfl⟩⟩; refine ⟨_, rfl, ?_⟩) | ((with_reducible refine gate_callee (f := 70) rfl ?_); refine goesL_ (some 19) rfl rfl Try.func70 (by kernel_rfl) rfl #[.int .i64 a0, .int .u64 a3] rfl (by (try simp only [List.map_toArray, List.map_cons, List.map_nil]); first | done | rfl | (simp only [List.length_drop, List.length_take]; rfl)) ?_; (with_reducible refine (spec_l3Mask.calls a0 a3 t107 _ A6.out).mono ?_); rintro e w' ⟨rfl, ⟨nd, rfl⟩⟩; refine ⟨_, rfl, ?_⟩) | ((with_reducible refine gate_callee (f := 71) rfl ?_); refine goesL_ (some 26) rfl rfl Try.func71 (by kernel_rfl) rfl #[.int .i64 a0, .int .u64 t106] rfl (by (try simp only [List.map_toArray, List.map_cons, List.map_nil]); first | done | rfl | (simp only [List.length_drop, List.length_take]; rfl)) ?_; (with_reducible refine (spec_l3Signed.calls a0 t106 t108 _ A8.out).mono ?_); rintro e w' ⟨rfl, ⟨nd, rfl⟩⟩; refine ⟨_, rfl, ?_⟩) | ((with_reducible refine gate_callee (f := 71) rfl ?_); refine goesL_ (some 29) rfl rfl Try.func71 (by kernel_rfl) rfl #[.int .i64 a0, .int .u64 t107] rfl (by (try simp only [List.map_toArray, List.map_cons, List.map_nil]); first | done | rfl | (simp only [List.length_drop, List.length_take]; rfl)) ?_; (with_reducible refine (spec_l3Signed.calls a0 t107 t109 _ A9.out).mono ?_); rintro e w' ⟨rfl, ⟨nd, rfl⟩⟩; refine ⟨_, rfl, ?_⟩) | ((with_reducible refine gate_callee (f := 70) rfl ?_); refine goesL_ (some 151) rfl rfl Try.func70 (by kernel_rfl) rfl #[.int .i64 a0, .int .u64 (IntKind.u64.wrap (t106 * t107))] rfl (by (try simp only [List.map_toArray, List.map_cons, List.map_nil]); first | done | rfl | (simp only [List.length_drop, List.length_take]; rfl)) ?_; (with_reducible refine (spec_l3Mask.calls a0 (IntKind.u64.wrap (t106 * t107)) t112 _ A15.out).mono ?_); rintro e w' ⟨rfl, ⟨nd, rfl⟩⟩; refine ⟨_, rfl, ?_⟩))
          go_ret2
          exact ⟨by first | rfl | (simp; done) | (simp [*]; done), by repeat (first | exact Drawn0.refl _ | apply Drawn0.step)⟩
        · rw [if_neg c14] at H
          have c14b0 : (a1 == 3) = false := beq_eq_false_iff_ne.mpr c14
          have c14b1 : (a1 != 3) = true := bne_iff_ne.mpr c14
          have HC16 := Aside0.mk H
          clear H
          go_enter Try.func41, Try.ntmps41
          go_upto_if 46 with (first | ((with_reducible refine gate_callee (f := 70) rfl ?_); refine goesL_ (some 16) rfl rfl Try.func70 (by kernel_rfl) rfl #[.int .i64 a0, .int .u64 a2] rfl (by (try simp only [List.map_toArray, List.map_cons, List.map_nil]); first | done | rfl | (simp only [List.length_drop, List.length_take]; rfl)) ?_; (with_reducible refine (spec_l3Mask.calls a0 a2 t106 _ A5.out).mono ?_); rintro e w' ⟨rfl, ⟨nd, rfl⟩⟩; refine ⟨_, rfl, ?_⟩) | ((with_reducible refine gate_callee (f := 70) rfl ?_); refine goesL_ (some 19) rfl rfl Try.func70 (by kernel_rfl) rfl #[.int .i64 a0, .int .u64 a3] rfl (by (try simp only [List.map_toArray, List.map_cons, List.map_nil]); first | done | rfl | (simp only [List.length_drop, List.length_take]; rfl)) ?_; (with_reducible refine (spec_l3Mask.calls a0 a3 t107 _ A6.out).mono ?_); rintro e w' ⟨rfl, ⟨nd, rfl⟩⟩; refine ⟨_, rfl, ?_⟩) | ((with_reducible refine gate_callee (f := 71) rfl ?_); refine goesL_ (some 26) rfl rfl Try.func71 (by kernel_rfl) rfl #[.int .i64 a0, .int .u64 t106] rfl (by (try simp only [List.map_toArray, List.map_cons, List.map_nil]); first | done | rfl | (simp only [List.length_drop, List.length_take]; rfl)) ?_; (with_reducible refine (spec_l3Signed.calls a0 t106 t108 _ A8.out).mono ?_); rintro e w' ⟨rfl, ⟨nd, rfl⟩⟩; refine ⟨_, rfl, ?_⟩) | ((with_reducible refine gate_callee (f := 71) rfl ?_); refine goesL_ (some 29) rfl rfl Try.func71 (by kernel_rfl) rfl #[.int .i64 a0, .int .u64 t107] rfl (by (try simp only [List.map_toArray, List.map_cons, List.map_nil]); first | done | rfl | (simp only [List.length_drop, List.length_take]; rfl)) ?_; (with_reducible refine (spec_l3Signed.calls a0 t107 t109 _ A9.out).mono ?_); rintro e w' ⟨rfl, ⟨nd, rfl⟩⟩; refine ⟨_, rfl, ?_⟩))
          (try simp only [Act.put, List.setIfInBounds_toArray, List.set_cons_zero, List.set_cons_succ])
          go_cut [46] (fun v46 wc => ∃ (kq : Nat) (x46_15 : Bool), v46 = .bool x46_15 ∧ Aside0 (spec_l3Binary.j0 kq a0 a1 t106 t107 (Int.tmod t107 (IntKind.u64.wrap (a0))) t108 t109 a1 x46_15 = some (r1, r2)) ∧ Aside0 (kq ≤ k) ∧ Drawn0 w wc)
          case first =>
            have H := HC16.out
            clear HC16
            by_cases c17 : a1 = 4
            · rw [if_pos c17] at H
              have c17b0 : (a1 == 4) = true := beq_iff_eq.mpr c17
              have c17b1 : (a1 != 4) = false := bne_eq_false_iff_eq.mpr c17
              clear c17
              (first | rw [c17b0] | (simp only [i64_w, i32_w]; rw [c17b0]) | skip)
              have H' := Aside0.mk H
              clear H
              go_wp2
              go_meet
              case rel => exact ⟨_, ((a1 == 4)), (by first | rfl | (simp; done) | (simp [*]; done)), H', ⟨by first | omega | exact Nat.le_refl _⟩, by repeat (first | exact Drawn0.refl _ | apply Drawn0.step)⟩
            · rw [if_neg c17] at H
              have c17b0 : (a1 == 4) = false := beq_eq_false_iff_ne.mpr c17
              have c17b1 : (a1 != 4) = true := bne_iff_ne.mpr c17
              (first | rw [c17b0] | (simp only [i64_w, i32_w]; rw [c17b0]) | skip)
              by_cases c18 : a1 = 5
              · rw [if_pos c18] at H
                have c18b0 : (a1 == 5) = true := beq_iff_eq.mpr c18
                have c18b1 : (a1 != 5) = false := bne_eq_false_iff_eq.mpr c18
                clear c18
                have H' := Aside0.mk H
                clear H
                go_wp2
                go_meet
                case rel => exact ⟨_, ((a1 == 5)), (by first | rfl | (simp; done) | (simp [*]; done)), H', ⟨by first | omega | exact Nat.le_refl _⟩, by repeat (first | exact Drawn0.refl _ | apply Drawn0.step)⟩
              · rw [if_neg c18] at H
                have c18b0 : (a1 == 5) = false := beq_eq_false_iff_ne.mpr c18
                have c18b1 : (a1 != 5) = true := bne_iff_ne.mpr c18
                by_cases c19 : a1 = 6
                · rw [if_pos c19] at H
                  have c19b0 : (a1 == 6) = true := beq_iff_eq.mpr c19
                  have c19b1 : (a1 != 6) = false := bne_eq_false_iff_eq.mpr c19
                  clear c19
                  have H' := Aside0.mk H
                  clear H
                  go_wp2
                  go_meet
                  case rel => exact ⟨_, ((a1 == 6)), (by first | rfl | (simp; done) | (simp [*]; done)), H', ⟨by first | omega | exact Nat.le_refl _⟩, by repeat (first | exact Drawn0.refl _ | apply Drawn0.step)⟩
                · rw [if_neg c19] at H
                  have c19b0 : (a1 == 6) = false := beq_eq_false_iff_ne.mpr c19
                  have c19b1 : (a1 != 6) = true := bne_iff_ne.mpr c19
                  have H' := Aside0.mk H
                  clear H
                  go_wp2
                  go_meet
                  case rel => exact ⟨_, ((a1 == 7)), (by first | rfl | (simp; done) | (simp [*]; done)), H', ⟨by first | omega | exact Nat.le_refl _⟩, by repeat (first | exact Drawn0.refl _ | apply Drawn0.step)⟩
          case rest =>
            clear HC16
            try clear c1
            try clear p2
            try clear c4
            try clear c7
            try clear c7b0
            try clear c7b1
            try clear c10
            try clear c10b0
            try clear c10b1
            try clear c12
            try clear c12b0
            try clear c12b1
            try clear c14
            try clear c14b0
            try clear c14b1
            try clear c17
            try clear c17b0
            try clear c17b1
            try clear c18
            try clear c18b0
            try clear c18b1
            try clear c19
            try clear c19b0
            try clear c19b1
            obtain ⟨kq, x46_15, rfl, HA, HJ15, ⟨mc15, rfl⟩⟩ := hcut
            cases kq with
            | zero => exact absurd HA.out (by simp [spec_l3Binary.j0])
            | succ kj15 =>
              have H := HA.out
              clear HA
              simp only [spec_l3Binary.j0] at H
              by_cases c20 : x46_15 = true
              · subst c20
                have H1 : ((spec_l3Divide.f a0 a1 t106 t107).bind fun bt113 => (some (bt113.1, bt113.2))) = some (r1, r2) := by rw [if_pos rfl] at H; exact H
                clear H
                have H := H1
                clear H1
                replace H := Option.bind_eq_some_iff.mp H
                obtain ⟨⟨t113, t114⟩, A210, H⟩ := H
                replace H : (some (t113, t114)) = some (r1, r2) := H
                have A21 := Aside0.mk A210
                clear A210
                simp only [Option.some.injEq, Prod.mk.injEq] at H
                obtain ⟨rfl, rfl⟩ := H
                go_wp2_with (first | ((with_reducible refine gate_callee (f := 72) rfl ?_); refine goesL_ (some 55) rfl rfl Try.func72 (by kernel_rfl) rfl #[.int .i64 a0, .int .i64 a1, .int .u64 t106, .int .u64 t107] rfl (by (try simp only [List.map_toArray, List.map_cons, List.map_nil]); first | done | rfl | (simp only [List.length_drop, List.length_take]; rfl)) ?_; (with_reducible refine (spec_l3Divide.calls a0 a1 t106 t107 t113 t114 _ A21.out).mono ?_); rintro e w' ⟨rfl, ⟨nd, rfl⟩⟩; refine ⟨_, rfl, ?_⟩))
                go_ret2
                exact ⟨by first | rfl | (simp; done) | (simp [*]; done), by repeat (first | exact Drawn0.refl _ | apply Drawn0.step)⟩
              · replace c20 := Bool.eq_false_iff.mpr c20
                subst c20
                have H1 : (if a1 = 8 then ((spec_l3Mask.f a0 (Go.bits .and .u64 t106 t107)).bind fun t115 => (some (t115, 0))) else (if a1 = 9 then ((spec_l3Mask.f a0 (Go.bits .or .u64 t106 t107)).bind fun t116 => (some (t116, 0))) else (if a1 = 10 then ((spec_l3Mask.f a0 (Go.bits .xor .u64 t106 t107)).bind fun t117 => (some (t117, 0))) else (if a1 = 11 then (if 0 ≤ (Int.tmod t107 (IntKind.u64.wrap (a0))) then ((spec_l3Mask.f a0 (shl .u64 t106 (Int.tmod t107 (IntKind.u64.wrap (a0))))).bind fun t118 => (some (t118, 0))) else (none)) else (if a1 = 13 then (if 0 ≤ (Int.tmod t107 (IntKind.u64.wrap (a0))) then ((spec_l3Mask.f a0 (shr .u64 t106 (Int.tmod t107 (IntKind.u64.wrap (a0))))).bind fun t119 => (some (t119, 0))) else (none)) else (if a1 = 12 then (if 0 ≤ (Int.tmod t107 (IntKind.u64.wrap (a0))) then ((spec_l3Mask.f a0 (IntKind.u64.wrap (shr .i64 t108 (Int.tmod t107 (IntKind.u64.wrap (a0)))))).bind fun t120 => (some (t120, 0))) else (none)) else (if a1 = 14 then (if 0 ≤ (Int.tmod t107 (IntKind.u64.wrap (a0))) then (if 0 ≤ (IntKind.u64.wrap ((IntKind.u64.wrap (a0)) - (Int.tmod t107 (IntKind.u64.wrap (a0))))) then ((spec_l3Mask.f a0 (Go.bits .or .u64 (shl .u64 t106 (Int.tmod t107 (IntKind.u64.wrap (a0)))) (shr .u64 t106 (IntKind.u64.wrap ((IntKind.u64.wrap (a0)) - (Int.tmod t107 (IntKind.u64.wrap (a0)))))))).bind fun t121 => (some (t121, 0))) else (none)) else (none)) else (if a1 = 15 then (if 0 ≤ (Int.tmod t107 (IntKind.u64.wrap (a0))) then (if 0 ≤ (IntKind.u64.wrap ((IntKind.u64.wrap (a0)) - (Int.tmod t107 (IntKind.u64.wrap (a0))))) then ((spec_l3Mask.f a0 (Go.bits .or .u64 (shr .u64 t106 (Int.tmod t107 (IntKind.u64.wrap (a0)))) (shl .u64 t106 (IntKind.u64.wrap ((IntKind.u64.wrap (a0)) - (Int.tmod t107 (IntKind.u64.wrap (a0)))))))).bind fun t122 => (some (t122, 0))) else (none)) else (none)) else (if a1 = 16 then ((spec_l3Yes.f (t106 == t107)).bind fun t123 => ((spec_l3Mask.f a0 t123).bind fun t124 => (some (t124, 0)))) else (if a1 = 17 then ((spec_l3Yes.f (t106 != t107)).bind fun t125 => ((spec_l3Mask.f a0 t125).bind fun t126 => (some (t126, 0)))) else (if a1 = 18 then ((spec_l3Yes.f (decide (t108 < t109))).bind fun t127 => ((spec_l3Mask.f a0 t127).bind fun t128 => (some (t128, 0)))) else (if a1 = 19 then ((spec_l3Yes.f (decide (t106 < t107))).bind fun t129 => ((spec_l3Mask.f a0 t129).bind fun t130 => (some (t130, 0)))) else (if a1 = 20 then ((spec_l3Yes.f (decide (t108 > t109))).bind fun t131 => ((spec_l3Mask.f a0 t131).bind fun t132 => (some (t132, 0)))) else (if a1 = 21 then ((spec_l3Yes.f (decide (t106 > t107))).bind fun t133 => ((spec_l3Mask.f a0 t133).bind fun t134 => (some (t134, 0)))) else (some (0, 3)))))))))))))))) = some (r1, r2) := by rw [if_neg (show ¬ (false = true) by decide)] at H; exact H
                clear H
                have H := H1
                clear H1
                by_cases c22 : a1 = 8
                · rw [if_pos c22] at H
                  have c22b0 : (a1 == 8) = true := beq_iff_eq.mpr c22
                  have c22b1 : (a1 != 8) = false := bne_eq_false_iff_eq.mpr c22
                  clear c22
                  replace H := Option.bind_eq_some_iff.mp H
                  obtain ⟨t115, A230, H⟩ := H
                  replace H : (some (t115, 0)) = some (r1, r2) := H
                  have A23 := Aside0.mk A230
                  clear A230
                  simp only [Option.some.injEq, Prod.mk.injEq] at H
                  obtain ⟨rfl, rfl⟩ := H
                  go_wp2_with (first | ((with_reducible refine gate_callee (f := 70) rfl ?_); refine goesL_ (some 151) rfl rfl Try.func70 (by kernel_rfl) rfl #[.int .i64 a0, .int .u64 (Go.bits .and .u64 t106 t107)] rfl (by (try simp only [List.map_toArray, List.map_cons, List.map_nil]); first | done | rfl | (simp only [List.length_drop, List.length_take]; rfl)) ?_; (with_reducible refine (spec_l3Mask.calls a0 (Go.bits .and .u64 t106 t107) t115 _ A23.out).mono ?_); rintro e w' ⟨rfl, ⟨nd, rfl⟩⟩; refine ⟨_, rfl, ?_⟩))
                  go_ret2
                  exact ⟨by first | rfl | (simp; done) | (simp [*]; done), by repeat (first | exact Drawn0.refl _ | apply Drawn0.step)⟩
                · rw [if_neg c22] at H
                  have c22b0 : (a1 == 8) = false := beq_eq_false_iff_ne.mpr c22
                  have c22b1 : (a1 != 8) = true := bne_iff_ne.mpr c22
                  by_cases c24 : a1 = 9
                  · rw [if_pos c24] at H
                    have c24b0 : (a1 == 9) = true := beq_iff_eq.mpr c24
                    have c24b1 : (a1 != 9) = false := bne_eq_false_iff_eq.mpr c24
                    clear c24
                    replace H := Option.bind_eq_some_iff.mp H
                    obtain ⟨t116, A250, H⟩ := H
                    replace H : (some (t116, 0)) = some (r1, r2) := H
                    have A25 := Aside0.mk A250
                    clear A250
                    simp only [Option.some.injEq, Prod.mk.injEq] at H
                    obtain ⟨rfl, rfl⟩ := H
                    go_wp2_with (first | ((with_reducible refine gate_callee (f := 70) rfl ?_); refine goesL_ (some 151) rfl rfl Try.func70 (by kernel_rfl) rfl #[.int .i64 a0, .int .u64 (Go.bits .or .u64 t106 t107)] rfl (by (try simp only [List.map_toArray, List.map_cons, List.map_nil]); first | done | rfl | (simp only [List.length_drop, List.length_take]; rfl)) ?_; (with_reducible refine (spec_l3Mask.calls a0 (Go.bits .or .u64 t106 t107) t116 _ A25.out).mono ?_); rintro e w' ⟨rfl, ⟨nd, rfl⟩⟩; refine ⟨_, rfl, ?_⟩))
                    go_ret2
                    exact ⟨by first | rfl | (simp; done) | (simp [*]; done), by repeat (first | exact Drawn0.refl _ | apply Drawn0.step)⟩
                  · rw [if_neg c24] at H
                    have c24b0 : (a1 == 9) = false := beq_eq_false_iff_ne.mpr c24
                    have c24b1 : (a1 != 9) = true := bne_iff_ne.mpr c24
                    by_cases c26 : a1 = 10
                    · rw [if_pos c26] at H
                      have c26b0 : (a1 == 10) = true := beq_iff_eq.mpr c26
                      have c26b1 : (a1 != 10) = false := bne_eq_false_iff_eq.mpr c26
                      clear c26
                      replace H := Option.bind_eq_some_iff.mp H
                      obtain ⟨t117, A270, H⟩ := H
                      replace H : (some (t117, 0)) = some (r1, r2) := H
                      have A27 := Aside0.mk A270
                      clear A270
                      simp only [Option.some.injEq, Prod.mk.injEq] at H
                      obtain ⟨rfl, rfl⟩ := H
                      go_wp2_with (first | ((with_reducible refine gate_callee (f := 70) rfl ?_); refine goesL_ (some 151) rfl rfl Try.func70 (by kernel_rfl) rfl #[.int .i64 a0, .int .u64 (Go.bits .xor .u64 t106 t107)] rfl (by (try simp only [List.map_toArray, List.map_cons, List.map_nil]); first | done | rfl | (simp only [List.length_drop, List.length_take]; rfl)) ?_; (with_reducible refine (spec_l3Mask.calls a0 (Go.bits .xor .u64 t106 t107) t117 _ A27.out).mono ?_); rintro e w' ⟨rfl, ⟨nd, rfl⟩⟩; refine ⟨_, rfl, ?_⟩))
                      go_ret2
                      exact ⟨by first | rfl | (simp; done) | (simp [*]; done), by repeat (first | exact Drawn0.refl _ | apply Drawn0.step)⟩
                    · rw [if_neg c26] at H
                      have c26b0 : (a1 == 10) = false := beq_eq_false_iff_ne.mpr c26
                      have c26b1 : (a1 != 10) = true := bne_iff_ne.mpr c26
                      by_cases c28 : a1 = 11
                      · rw [if_pos c28] at H
                        have c28b0 : (a1 == 11) = true := beq_iff_eq.mpr c28
                        have c28b1 : (a1 != 11) = false := bne_eq_false_iff_eq.mpr c28
                        clear c28
                        obtain ⟨ji29, hji29⟩ : ∃ j_ : Int, (Int.tmod t107 (IntKind.u64.wrap (a0))) = j_ := ⟨_, rfl⟩
                        replace H : (if 0 ≤ (ji29) then ((spec_l3Mask.f a0 (shl .u64 t106 (ji29))).bind fun t118 => (some (t118, 0))) else (none)) = some (r1, r2) := by first | (rw [hji29] at H; exact H) | (simp only [hji29] at H ⊢; exact H)
                        by_cases c30 : 0 ≤ (ji29)
                        · rw [if_pos c30] at H
                          have c30b0 := eq_true c30
                          have c30b1 : decide (0 ≤ (ji29)) = true := decide_eq_true c30
                          clear c30
                          obtain ⟨ji31, hji31⟩ : ∃ j_ : Int, (shl .u64 t106 (ji29)) = j_ := ⟨_, rfl⟩
                          replace H : ((spec_l3Mask.f a0 (ji31)).bind fun t118 => (some (t118, 0))) = some (r1, r2) := by first | (rw [hji31] at H; exact H) | (simp only [hji31] at H ⊢; exact H)
                          have hji31_ : (IntKind.u64.wrap (t106 * 2 ^ min (ji29).toNat 64)) = ji31 := hji31
                          have hji31z : (ji29) ≤ 64 → (IntKind.u64.wrap (t106 * 2 ^ (ji29).toNat)) = ji31 := shl_small hji31
                          replace H := Option.bind_eq_some_iff.mp H
                          obtain ⟨t118, A320, H⟩ := H
                          replace H : (some (t118, 0)) = some (r1, r2) := H
                          have A32 := Aside0.mk A320
                          clear A320
                          simp only [Option.some.injEq, Prod.mk.injEq] at H
                          obtain ⟨rfl, rfl⟩ := H
                          go_wp2_with (first | ((with_reducible refine gate_callee (f := 70) rfl ?_); refine goesL_ (some 151) rfl rfl Try.func70 (by kernel_rfl) rfl #[.int .i64 a0, .int .u64 ji31] rfl (by (try simp only [List.map_toArray, List.map_cons, List.map_nil]); first | done | (simp only [hji31]; rfl) | rfl | (simp only [List.length_drop, List.length_take]; rfl)) ?_; (with_reducible refine (spec_l3Mask.calls a0 ji31 t118 _ A32.out).mono ?_); rintro e w' ⟨rfl, ⟨nd, rfl⟩⟩; refine ⟨_, rfl, ?_⟩))
                          go_ret2
                          exact ⟨by first | rfl | (simp; done) | (simp only [← hji29, ← hji31] <;> (first | rfl | simp)) | (simp [*]; done), by repeat (first | exact Drawn0.refl _ | apply Drawn0.step)⟩
                        · rw [if_neg c30] at H
                          exact absurd H (by simp)
                      · rw [if_neg c28] at H
                        have c28b0 : (a1 == 11) = false := beq_eq_false_iff_ne.mpr c28
                        have c28b1 : (a1 != 11) = true := bne_iff_ne.mpr c28
                        by_cases c33 : a1 = 13
                        · rw [if_pos c33] at H
                          have c33b0 : (a1 == 13) = true := beq_iff_eq.mpr c33
                          have c33b1 : (a1 != 13) = false := bne_eq_false_iff_eq.mpr c33
                          clear c33
                          obtain ⟨ji34, hji34⟩ : ∃ j_ : Int, (Int.tmod t107 (IntKind.u64.wrap (a0))) = j_ := ⟨_, rfl⟩
                          replace H : (if 0 ≤ (ji34) then ((spec_l3Mask.f a0 (shr .u64 t106 (ji34))).bind fun t119 => (some (t119, 0))) else (none)) = some (r1, r2) := by first | (rw [hji34] at H; exact H) | (simp only [hji34] at H ⊢; exact H)
                          by_cases c35 : 0 ≤ (ji34)
                          · rw [if_pos c35] at H
                            have c35b0 := eq_true c35
                            have c35b1 : decide (0 ≤ (ji34)) = true := decide_eq_true c35
                            clear c35
                            obtain ⟨ji36, hji36⟩ : ∃ j_ : Int, (shr .u64 t106 (ji34)) = j_ := ⟨_, rfl⟩
                            replace H : ((spec_l3Mask.f a0 (ji36)).bind fun t119 => (some (t119, 0))) = some (r1, r2) := by first | (rw [hji36] at H; exact H) | (simp only [hji36] at H ⊢; exact H)
                            have hji36_ : (t106 / 2 ^ min (ji34).toNat 64) = ji36 := hji36
                            have hji36z : (ji34) ≤ 64 → (t106 / 2 ^ (ji34).toNat) = ji36 := shr_small hji36
                            replace H := Option.bind_eq_some_iff.mp H
                            obtain ⟨t119, A370, H⟩ := H
                            replace H : (some (t119, 0)) = some (r1, r2) := H
                            have A37 := Aside0.mk A370
                            clear A370
                            simp only [Option.some.injEq, Prod.mk.injEq] at H
                            obtain ⟨rfl, rfl⟩ := H
                            go_wp2_with (first | ((with_reducible refine gate_callee (f := 70) rfl ?_); refine goesL_ (some 151) rfl rfl Try.func70 (by kernel_rfl) rfl #[.int .i64 a0, .int .u64 ji36] rfl (by (try simp only [List.map_toArray, List.map_cons, List.map_nil]); first | done | (simp only [hji36]; rfl) | rfl | (simp only [List.length_drop, List.length_take]; rfl)) ?_; (with_reducible refine (spec_l3Mask.calls a0 ji36 t119 _ A37.out).mono ?_); rintro e w' ⟨rfl, ⟨nd, rfl⟩⟩; refine ⟨_, rfl, ?_⟩))
                            go_ret2
                            exact ⟨by first | rfl | (simp; done) | (simp only [← hji34, ← hji36] <;> (first | rfl | simp)) | (simp [*]; done), by repeat (first | exact Drawn0.refl _ | apply Drawn0.step)⟩
                          · rw [if_neg c35] at H
                            exact absurd H (by simp)
                        · rw [if_neg c33] at H
                          have c33b0 : (a1 == 13) = false := beq_eq_false_iff_ne.mpr c33
                          have c33b1 : (a1 != 13) = true := bne_iff_ne.mpr c33
                          by_cases c38 : a1 = 12
                          · rw [if_pos c38] at H
                            have c38b0 : (a1 == 12) = true := beq_iff_eq.mpr c38
                            have c38b1 : (a1 != 12) = false := bne_eq_false_iff_eq.mpr c38
                            clear c38
                            obtain ⟨ji39, hji39⟩ : ∃ j_ : Int, (Int.tmod t107 (IntKind.u64.wrap (a0))) = j_ := ⟨_, rfl⟩
                            replace H : (if 0 ≤ (ji39) then ((spec_l3Mask.f a0 (IntKind.u64.wrap (shr .i64 t108 (ji39)))).bind fun t120 => (some (t120, 0))) else (none)) = some (r1, r2) := by first | (rw [hji39] at H; exact H) | (simp only [hji39] at H ⊢; exact H)
                            by_cases c40 : 0 ≤ (ji39)
                            · rw [if_pos c40] at H
                              have c40b0 := eq_true c40
                              have c40b1 : decide (0 ≤ (ji39)) = true := decide_eq_true c40
                              clear c40
                              obtain ⟨ji41, hji41⟩ : ∃ j_ : Int, (shr .i64 t108 (ji39)) = j_ := ⟨_, rfl⟩
                              replace H : ((spec_l3Mask.f a0 (IntKind.u64.wrap (ji41))).bind fun t120 => (some (t120, 0))) = some (r1, r2) := by first | (rw [hji41] at H; exact H) | (simp only [hji41] at H ⊢; exact H)
                              have hji41_ : (t108 / 2 ^ min (ji39).toNat 64) = ji41 := hji41
                              have hji41z : (ji39) ≤ 64 → (t108 / 2 ^ (ji39).toNat) = ji41 := shr_small hji41
                              replace H := Option.bind_eq_some_iff.mp H
                              obtain ⟨t120, A420, H⟩ := H
                              replace H : (some (t120, 0)) = some (r1, r2) := H
                              have A42 := Aside0.mk A420
                              clear A420
                              simp only [Option.some.injEq, Prod.mk.injEq] at H
                              obtain ⟨rfl, rfl⟩ := H
                              go_wp2_with (first | ((with_reducible refine gate_callee (f := 70) rfl ?_); refine goesL_ (some 151) rfl rfl Try.func70 (by kernel_rfl) rfl #[.int .i64 a0, .int .u64 (IntKind.u64.wrap (ji41))] rfl (by (try simp only [List.map_toArray, List.map_cons, List.map_nil]); first | done | (simp only [hji41]; rfl) | rfl | (simp only [List.length_drop, List.length_take]; rfl)) ?_; (with_reducible refine (spec_l3Mask.calls a0 (IntKind.u64.wrap (ji41)) t120 _ A42.out).mono ?_); rintro e w' ⟨rfl, ⟨nd, rfl⟩⟩; refine ⟨_, rfl, ?_⟩))
                              go_ret2
                              exact ⟨by first | rfl | (simp; done) | (simp only [← hji39, ← hji41] <;> (first | rfl | simp)) | (simp [*]; done), by repeat (first | exact Drawn0.refl _ | apply Drawn0.step)⟩
                            · rw [if_neg c40] at H
                              exact absurd H (by simp)
                          · rw [if_neg c38] at H
                            have c38b0 : (a1 == 12) = false := beq_eq_false_iff_ne.mpr c38
                            have c38b1 : (a1 != 12) = true := bne_iff_ne.mpr c38
                            by_cases c43 : a1 = 14
                            · rw [if_pos c43] at H
                              have c43b0 : (a1 == 14) = true := beq_iff_eq.mpr c43
                              have c43b1 : (a1 != 14) = false := bne_eq_false_iff_eq.mpr c43
                              clear c43
                              obtain ⟨ji44, hji44⟩ : ∃ j_ : Int, (Int.tmod t107 (IntKind.u64.wrap (a0))) = j_ := ⟨_, rfl⟩
                              replace H : (if 0 ≤ (ji44) then (if 0 ≤ (IntKind.u64.wrap ((IntKind.u64.wrap (a0)) - (ji44))) then ((spec_l3Mask.f a0 (Go.bits .or .u64 (shl .u64 t106 (ji44)) (shr .u64 t106 (IntKind.u64.wrap ((IntKind.u64.wrap (a0)) - (ji44)))))).bind fun t121 => (some (t121, 0))) else (none)) else (none)) = some (r1, r2) := by first | (rw [hji44] at H; exact H) | (simp only [hji44] at H ⊢; exact H)
                              by_cases c45 : 0 ≤ (ji44)
                              · rw [if_pos c45] at H
                                have c45b0 := eq_true c45
                                have c45b1 : decide (0 ≤ (ji44)) = true := decide_eq_true c45
                                clear c45
                                obtain ⟨ji46, hji46⟩ : ∃ j_ : Int, (shl .u64 t106 (ji44)) = j_ := ⟨_, rfl⟩
                                replace H : (if 0 ≤ (IntKind.u64.wrap ((IntKind.u64.wrap (a0)) - (ji44))) then ((spec_l3Mask.f a0 (Go.bits .or .u64 (ji46) (shr .u64 t106 (IntKind.u64.wrap ((IntKind.u64.wrap (a0)) - (ji44)))))).bind fun t121 => (some (t121, 0))) else (none)) = some (r1, r2) := by first | (rw [hji46] at H; exact H) | (simp only [hji46] at H ⊢; exact H)
                                have hji46_ : (IntKind.u64.wrap (t106 * 2 ^ min (ji44).toNat 64)) = ji46 := hji46
                                have hji46z : (ji44) ≤ 64 → (IntKind.u64.wrap (t106 * 2 ^ (ji44).toNat)) = ji46 := shl_small hji46
                                obtain ⟨ji47, hji47⟩ : ∃ j_ : Int, (IntKind.u64.wrap ((IntKind.u64.wrap (a0)) - (ji44))) = j_ := ⟨_, rfl⟩
                                replace H : (if 0 ≤ (ji47) then ((spec_l3Mask.f a0 (Go.bits .or .u64 (ji46) (shr .u64 t106 (ji47)))).bind fun t121 => (some (t121, 0))) else (none)) = some (r1, r2) := by first | (rw [hji47] at H; exact H) | (simp only [hji47] at H ⊢; exact H)
                                by_cases c48 : 0 ≤ (ji47)
                                · rw [if_pos c48] at H
                                  have c48b0 := eq_true c48
                                  have c48b1 : decide (0 ≤ (ji47)) = true := decide_eq_true c48
                                  clear c48
                                  obtain ⟨ji49, hji49⟩ : ∃ j_ : Int, (shr .u64 t106 (ji47)) = j_ := ⟨_, rfl⟩
                                  replace H : ((spec_l3Mask.f a0 (Go.bits .or .u64 (ji46) (ji49))).bind fun t121 => (some (t121, 0))) = some (r1, r2) := by first | (rw [hji49] at H; exact H) | (simp only [hji49] at H ⊢; exact H)
                                  have hji49_ : (t106 / 2 ^ min (ji47).toNat 64) = ji49 := hji49
                                  have hji49z : (ji47) ≤ 64 → (t106 / 2 ^ (ji47).toNat) = ji49 := shr_small hji49
                                  replace H := Option.bind_eq_some_iff.mp H
                                  obtain ⟨t121, A500, H⟩ := H
                                  replace H : (some (t121, 0)) = some (r1, r2) := H
                                  have A50 := Aside0.mk A500
                                  clear A500
                                  simp only [Option.some.injEq, Prod.mk.injEq] at H
                                  obtain ⟨rfl, rfl⟩ := H
                                  go_wp2_with (first | ((with_reducible refine gate_callee (f := 70) rfl ?_); refine goesL_ (some 151) rfl rfl Try.func70 (by kernel_rfl) rfl #[.int .i64 a0, .int .u64 (Go.bits .or .u64 (ji46) (ji49))] rfl (by (try simp only [List.map_toArray, List.map_cons, List.map_nil]); first | done | (simp only [hji46, hji49]; rfl) | rfl | (simp only [List.length_drop, List.length_take]; rfl)) ?_; (with_reducible refine (spec_l3Mask.calls a0 (Go.bits .or .u64 (ji46) (ji49)) t121 _ A50.out).mono ?_); rintro e w' ⟨rfl, ⟨nd, rfl⟩⟩; refine ⟨_, rfl, ?_⟩))
                                  go_ret2
                                  exact ⟨by first | rfl | (simp; done) | (simp only [← hji44, ← hji46, ← hji47, ← hji49] <;> (first | rfl | simp)) | (simp [*]; done), by repeat (first | exact Drawn0.refl _ | apply Drawn0.step)⟩
                                · rw [if_neg c48] at H
                                  exact absurd H (by simp)
                              · rw [if_neg c45] at H
                                exact absurd H (by simp)
                            · rw [if_neg c43] at H
                              have c43b0 : (a1 == 14) = false := beq_eq_false_iff_ne.mpr c43
                              have c43b1 : (a1 != 14) = true := bne_iff_ne.mpr c43
                              by_cases c51 : a1 = 15
                              · rw [if_pos c51] at H
                                have c51b0 : (a1 == 15) = true := beq_iff_eq.mpr c51
                                have c51b1 : (a1 != 15) = false := bne_eq_false_iff_eq.mpr c51
                                clear c51
                                obtain ⟨ji52, hji52⟩ : ∃ j_ : Int, (Int.tmod t107 (IntKind.u64.wrap (a0))) = j_ := ⟨_, rfl⟩
                                replace H : (if 0 ≤ (ji52) then (if 0 ≤ (IntKind.u64.wrap ((IntKind.u64.wrap (a0)) - (ji52))) then ((spec_l3Mask.f a0 (Go.bits .or .u64 (shr .u64 t106 (ji52)) (shl .u64 t106 (IntKind.u64.wrap ((IntKind.u64.wrap (a0)) - (ji52)))))).bind fun t122 => (some (t122, 0))) else (none)) else (none)) = some (r1, r2) := by first | (rw [hji52] at H; exact H) | (simp only [hji52] at H ⊢; exact H)
                                by_cases c53 : 0 ≤ (ji52)
                                · rw [if_pos c53] at H
                                  have c53b0 := eq_true c53
                                  have c53b1 : decide (0 ≤ (ji52)) = true := decide_eq_true c53
                                  clear c53
                                  obtain ⟨ji54, hji54⟩ : ∃ j_ : Int, (shr .u64 t106 (ji52)) = j_ := ⟨_, rfl⟩
                                  replace H : (if 0 ≤ (IntKind.u64.wrap ((IntKind.u64.wrap (a0)) - (ji52))) then ((spec_l3Mask.f a0 (Go.bits .or .u64 (ji54) (shl .u64 t106 (IntKind.u64.wrap ((IntKind.u64.wrap (a0)) - (ji52)))))).bind fun t122 => (some (t122, 0))) else (none)) = some (r1, r2) := by first | (rw [hji54] at H; exact H) | (simp only [hji54] at H ⊢; exact H)
                                  have hji54_ : (t106 / 2 ^ min (ji52).toNat 64) = ji54 := hji54
                                  have hji54z : (ji52) ≤ 64 → (t106 / 2 ^ (ji52).toNat) = ji54 := shr_small hji54
                                  obtain ⟨ji55, hji55⟩ : ∃ j_ : Int, (IntKind.u64.wrap ((IntKind.u64.wrap (a0)) - (ji52))) = j_ := ⟨_, rfl⟩
                                  replace H : (if 0 ≤ (ji55) then ((spec_l3Mask.f a0 (Go.bits .or .u64 (ji54) (shl .u64 t106 (ji55)))).bind fun t122 => (some (t122, 0))) else (none)) = some (r1, r2) := by first | (rw [hji55] at H; exact H) | (simp only [hji55] at H ⊢; exact H)
                                  by_cases c56 : 0 ≤ (ji55)
                                  · rw [if_pos c56] at H
                                    have c56b0 := eq_true c56
                                    have c56b1 : decide (0 ≤ (ji55)) = true := decide_eq_true c56
                                    clear c56
                                    obtain ⟨ji57, hji57⟩ : ∃ j_ : Int, (shl .u64 t106 (ji55)) = j_ := ⟨_, rfl⟩
                                    replace H : ((spec_l3Mask.f a0 (Go.bits .or .u64 (ji54) (ji57))).bind fun t122 => (some (t122, 0))) = some (r1, r2) := by first | (rw [hji57] at H; exact H) | (simp only [hji57] at H ⊢; exact H)
                                    have hji57_ : (IntKind.u64.wrap (t106 * 2 ^ min (ji55).toNat 64)) = ji57 := hji57
                                    have hji57z : (ji55) ≤ 64 → (IntKind.u64.wrap (t106 * 2 ^ (ji55).toNat)) = ji57 := shl_small hji57
                                    replace H := Option.bind_eq_some_iff.mp H
                                    obtain ⟨t122, A580, H⟩ := H
                                    replace H : (some (t122, 0)) = some (r1, r2) := H
                                    have A58 := Aside0.mk A580
                                    clear A580
                                    simp only [Option.some.injEq, Prod.mk.injEq] at H
                                    obtain ⟨rfl, rfl⟩ := H
                                    go_wp2_with (first | ((with_reducible refine gate_callee (f := 70) rfl ?_); refine goesL_ (some 151) rfl rfl Try.func70 (by kernel_rfl) rfl #[.int .i64 a0, .int .u64 (Go.bits .or .u64 (ji54) (ji57))] rfl (by (try simp only [List.map_toArray, List.map_cons, List.map_nil]); first | done | (simp only [hji54, hji57]; rfl) | rfl | (simp only [List.length_drop, List.length_take]; rfl)) ?_; (with_reducible refine (spec_l3Mask.calls a0 (Go.bits .or .u64 (ji54) (ji57)) t122 _ A58.out).mono ?_); rintro e w' ⟨rfl, ⟨nd, rfl⟩⟩; refine ⟨_, rfl, ?_⟩))
                                    go_ret2
                                    exact ⟨by first | rfl | (simp; done) | (simp only [← hji52, ← hji54, ← hji55, ← hji57] <;> (first | rfl | simp)) | (simp [*]; done), by repeat (first | exact Drawn0.refl _ | apply Drawn0.step)⟩
                                  · rw [if_neg c56] at H
                                    exact absurd H (by simp)
                                · rw [if_neg c53] at H
                                  exact absurd H (by simp)
                              · rw [if_neg c51] at H
                                have c51b0 : (a1 == 15) = false := beq_eq_false_iff_ne.mpr c51
                                have c51b1 : (a1 != 15) = true := bne_iff_ne.mpr c51
                                by_cases c59 : a1 = 16
                                · rw [if_pos c59] at H
                                  have c59b0 : (a1 == 16) = true := beq_iff_eq.mpr c59
                                  have c59b1 : (a1 != 16) = false := bne_eq_false_iff_eq.mpr c59
                                  clear c59
                                  replace H := Option.bind_eq_some_iff.mp H
                                  obtain ⟨t123, A600, H⟩ := H
                                  replace H : ((spec_l3Mask.f a0 t123).bind fun t124 => (some (t124, 0))) = some (r1, r2) := H
                                  have A60 := Aside0.mk A600
                                  clear A600
                                  replace H := Option.bind_eq_some_iff.mp H
                                  obtain ⟨t124, A610, H⟩ := H
                                  replace H : (some (t124, 0)) = some (r1, r2) := H
                                  have A61 := Aside0.mk A610
                                  clear A610
                                  simp only [Option.some.injEq, Prod.mk.injEq] at H
                                  obtain ⟨rfl, rfl⟩ := H
                                  go_wp2_with (first | ((with_reducible refine gate_callee (f := 73) rfl ?_); refine goesL_ (some 118) rfl rfl Try.func73 (by kernel_rfl) rfl #[.bool (t106 == t107)] rfl (by (try simp only [List.map_toArray, List.map_cons, List.map_nil]); first | done | rfl | (simp only [List.length_drop, List.length_take]; rfl)) ?_; (with_reducible refine (spec_l3Yes.calls (t106 == t107) t123 _ A60.out).mono ?_); rintro e w' ⟨rfl, ⟨nd, rfl⟩⟩; refine ⟨_, rfl, ?_⟩) | ((with_reducible refine gate_callee (f := 70) rfl ?_); refine goesL_ (some 151) rfl rfl Try.func70 (by kernel_rfl) rfl #[.int .i64 a0, .int .u64 t123] rfl (by (try simp only [List.map_toArray, List.map_cons, List.map_nil]); first | done | rfl | (simp only [List.length_drop, List.length_take]; rfl)) ?_; (with_reducible refine (spec_l3Mask.calls a0 t123 t124 _ A61.out).mono ?_); rintro e w' ⟨rfl, ⟨nd, rfl⟩⟩; refine ⟨_, rfl, ?_⟩))
                                  go_ret2
                                  exact ⟨by first | rfl | (simp; done) | (simp [*]; done), by repeat (first | exact Drawn0.refl _ | apply Drawn0.step)⟩
                                · rw [if_neg c59] at H
                                  have c59b0 : (a1 == 16) = false := beq_eq_false_iff_ne.mpr c59
                                  have c59b1 : (a1 != 16) = true := bne_iff_ne.mpr c59
                                  by_cases c62 : a1 = 17
                                  · rw [if_pos c62] at H
                                    have c62b0 : (a1 == 17) = true := beq_iff_eq.mpr c62
                                    have c62b1 : (a1 != 17) = false := bne_eq_false_iff_eq.mpr c62
                                    clear c62
                                    replace H := Option.bind_eq_some_iff.mp H
                                    obtain ⟨t125, A630, H⟩ := H
                                    replace H : ((spec_l3Mask.f a0 t125).bind fun t126 => (some (t126, 0))) = some (r1, r2) := H
                                    have A63 := Aside0.mk A630
                                    clear A630
                                    replace H := Option.bind_eq_some_iff.mp H
                                    obtain ⟨t126, A640, H⟩ := H
                                    replace H : (some (t126, 0)) = some (r1, r2) := H
                                    have A64 := Aside0.mk A640
                                    clear A640
                                    simp only [Option.some.injEq, Prod.mk.injEq] at H
                                    obtain ⟨rfl, rfl⟩ := H
                                    go_wp2_with (first | ((with_reducible refine gate_callee (f := 73) rfl ?_); refine goesL_ (some 124) rfl rfl Try.func73 (by kernel_rfl) rfl #[.bool (t106 != t107)] rfl (by (try simp only [List.map_toArray, List.map_cons, List.map_nil]); first | done | rfl | (simp only [List.length_drop, List.length_take]; rfl)) ?_; (with_reducible refine (spec_l3Yes.calls (t106 != t107) t125 _ A63.out).mono ?_); rintro e w' ⟨rfl, ⟨nd, rfl⟩⟩; refine ⟨_, rfl, ?_⟩) | ((with_reducible refine gate_callee (f := 70) rfl ?_); refine goesL_ (some 151) rfl rfl Try.func70 (by kernel_rfl) rfl #[.int .i64 a0, .int .u64 t125] rfl (by (try simp only [List.map_toArray, List.map_cons, List.map_nil]); first | done | rfl | (simp only [List.length_drop, List.length_take]; rfl)) ?_; (with_reducible refine (spec_l3Mask.calls a0 t125 t126 _ A64.out).mono ?_); rintro e w' ⟨rfl, ⟨nd, rfl⟩⟩; refine ⟨_, rfl, ?_⟩))
                                    go_ret2
                                    exact ⟨by first | rfl | (simp; done) | (simp [*]; done), by repeat (first | exact Drawn0.refl _ | apply Drawn0.step)⟩
                                  · rw [if_neg c62] at H
                                    have c62b0 : (a1 == 17) = false := beq_eq_false_iff_ne.mpr c62
                                    have c62b1 : (a1 != 17) = true := bne_iff_ne.mpr c62
                                    by_cases c65 : a1 = 18
                                    · rw [if_pos c65] at H
                                      have c65b0 : (a1 == 18) = true := beq_iff_eq.mpr c65
                                      have c65b1 : (a1 != 18) = false := bne_eq_false_iff_eq.mpr c65
                                      clear c65
                                      replace H := Option.bind_eq_some_iff.mp H
                                      obtain ⟨t127, A660, H⟩ := H
                                      replace H : ((spec_l3Mask.f a0 t127).bind fun t128 => (some (t128, 0))) = some (r1, r2) := H
                                      have A66 := Aside0.mk A660
                                      clear A660
                                      replace H := Option.bind_eq_some_iff.mp H
                                      obtain ⟨t128, A670, H⟩ := H
                                      replace H : (some (t128, 0)) = some (r1, r2) := H
                                      have A67 := Aside0.mk A670
                                      clear A670
                                      simp only [Option.some.injEq, Prod.mk.injEq] at H
                                      obtain ⟨rfl, rfl⟩ := H
                                      go_wp2_with (first | ((with_reducible refine gate_callee (f := 73) rfl ?_); refine goesL_ (some 130) rfl rfl Try.func73 (by kernel_rfl) rfl #[.bool (decide (t108 < t109))] rfl (by (try simp only [List.map_toArray, List.map_cons, List.map_nil]); first | done | rfl | (simp only [List.length_drop, List.length_take]; rfl)) ?_; (with_reducible refine (spec_l3Yes.calls (decide (t108 < t109)) t127 _ A66.out).mono ?_); rintro e w' ⟨rfl, ⟨nd, rfl⟩⟩; refine ⟨_, rfl, ?_⟩) | ((with_reducible refine gate_callee (f := 70) rfl ?_); refine goesL_ (some 151) rfl rfl Try.func70 (by kernel_rfl) rfl #[.int .i64 a0, .int .u64 t127] rfl (by (try simp only [List.map_toArray, List.map_cons, List.map_nil]); first | done | rfl | (simp only [List.length_drop, List.length_take]; rfl)) ?_; (with_reducible refine (spec_l3Mask.calls a0 t127 t128 _ A67.out).mono ?_); rintro e w' ⟨rfl, ⟨nd, rfl⟩⟩; refine ⟨_, rfl, ?_⟩))
                                      go_ret2
                                      exact ⟨by first | rfl | (simp; done) | (simp [*]; done), by repeat (first | exact Drawn0.refl _ | apply Drawn0.step)⟩
                                    · rw [if_neg c65] at H
                                      have c65b0 : (a1 == 18) = false := beq_eq_false_iff_ne.mpr c65
                                      have c65b1 : (a1 != 18) = true := bne_iff_ne.mpr c65
                                      by_cases c68 : a1 = 19
                                      · rw [if_pos c68] at H
                                        have c68b0 : (a1 == 19) = true := beq_iff_eq.mpr c68
                                        have c68b1 : (a1 != 19) = false := bne_eq_false_iff_eq.mpr c68
                                        clear c68
                                        replace H := Option.bind_eq_some_iff.mp H
                                        obtain ⟨t129, A690, H⟩ := H
                                        replace H : ((spec_l3Mask.f a0 t129).bind fun t130 => (some (t130, 0))) = some (r1, r2) := H
                                        have A69 := Aside0.mk A690
                                        clear A690
                                        replace H := Option.bind_eq_some_iff.mp H
                                        obtain ⟨t130, A700, H⟩ := H
                                        replace H : (some (t130, 0)) = some (r1, r2) := H
                                        have A70 := Aside0.mk A700
                                        clear A700
                                        simp only [Option.some.injEq, Prod.mk.injEq] at H
                                        obtain ⟨rfl, rfl⟩ := H
                                        go_wp2_with (first | ((with_reducible refine gate_callee (f := 73) rfl ?_); refine goesL_ (some 136) rfl rfl Try.func73 (by kernel_rfl) rfl #[.bool (decide (t106 < t107))] rfl (by (try simp only [List.map_toArray, List.map_cons, List.map_nil]); first | done | rfl | (simp only [List.length_drop, List.length_take]; rfl)) ?_; (with_reducible refine (spec_l3Yes.calls (decide (t106 < t107)) t129 _ A69.out).mono ?_); rintro e w' ⟨rfl, ⟨nd, rfl⟩⟩; refine ⟨_, rfl, ?_⟩) | ((with_reducible refine gate_callee (f := 70) rfl ?_); refine goesL_ (some 151) rfl rfl Try.func70 (by kernel_rfl) rfl #[.int .i64 a0, .int .u64 t129] rfl (by (try simp only [List.map_toArray, List.map_cons, List.map_nil]); first | done | rfl | (simp only [List.length_drop, List.length_take]; rfl)) ?_; (with_reducible refine (spec_l3Mask.calls a0 t129 t130 _ A70.out).mono ?_); rintro e w' ⟨rfl, ⟨nd, rfl⟩⟩; refine ⟨_, rfl, ?_⟩))
                                        go_ret2
                                        exact ⟨by first | rfl | (simp; done) | (simp [*]; done), by repeat (first | exact Drawn0.refl _ | apply Drawn0.step)⟩
                                      · rw [if_neg c68] at H
                                        have c68b0 : (a1 == 19) = false := beq_eq_false_iff_ne.mpr c68
                                        have c68b1 : (a1 != 19) = true := bne_iff_ne.mpr c68
                                        by_cases c71 : a1 = 20
                                        · rw [if_pos c71] at H
                                          have c71b0 : (a1 == 20) = true := beq_iff_eq.mpr c71
                                          have c71b1 : (a1 != 20) = false := bne_eq_false_iff_eq.mpr c71
                                          clear c71
                                          replace H := Option.bind_eq_some_iff.mp H
                                          obtain ⟨t131, A720, H⟩ := H
                                          replace H : ((spec_l3Mask.f a0 t131).bind fun t132 => (some (t132, 0))) = some (r1, r2) := H
                                          have A72 := Aside0.mk A720
                                          clear A720
                                          replace H := Option.bind_eq_some_iff.mp H
                                          obtain ⟨t132, A730, H⟩ := H
                                          replace H : (some (t132, 0)) = some (r1, r2) := H
                                          have A73 := Aside0.mk A730
                                          clear A730
                                          simp only [Option.some.injEq, Prod.mk.injEq] at H
                                          obtain ⟨rfl, rfl⟩ := H
                                          go_wp2_with (first | ((with_reducible refine gate_callee (f := 73) rfl ?_); refine goesL_ (some 142) rfl rfl Try.func73 (by kernel_rfl) rfl #[.bool (decide (t108 > t109))] rfl (by (try simp only [List.map_toArray, List.map_cons, List.map_nil]); first | done | rfl | (simp only [List.length_drop, List.length_take]; rfl)) ?_; (with_reducible refine (spec_l3Yes.calls (decide (t108 > t109)) t131 _ A72.out).mono ?_); rintro e w' ⟨rfl, ⟨nd, rfl⟩⟩; refine ⟨_, rfl, ?_⟩) | ((with_reducible refine gate_callee (f := 70) rfl ?_); refine goesL_ (some 151) rfl rfl Try.func70 (by kernel_rfl) rfl #[.int .i64 a0, .int .u64 t131] rfl (by (try simp only [List.map_toArray, List.map_cons, List.map_nil]); first | done | rfl | (simp only [List.length_drop, List.length_take]; rfl)) ?_; (with_reducible refine (spec_l3Mask.calls a0 t131 t132 _ A73.out).mono ?_); rintro e w' ⟨rfl, ⟨nd, rfl⟩⟩; refine ⟨_, rfl, ?_⟩))
                                          go_ret2
                                          exact ⟨by first | rfl | (simp; done) | (simp [*]; done), by repeat (first | exact Drawn0.refl _ | apply Drawn0.step)⟩
                                        · rw [if_neg c71] at H
                                          have c71b0 : (a1 == 20) = false := beq_eq_false_iff_ne.mpr c71
                                          have c71b1 : (a1 != 20) = true := bne_iff_ne.mpr c71
                                          by_cases c74 : a1 = 21
                                          · rw [if_pos c74] at H
                                            have c74b0 : (a1 == 21) = true := beq_iff_eq.mpr c74
                                            have c74b1 : (a1 != 21) = false := bne_eq_false_iff_eq.mpr c74
                                            clear c74
                                            replace H := Option.bind_eq_some_iff.mp H
                                            obtain ⟨t133, A750, H⟩ := H
                                            replace H : ((spec_l3Mask.f a0 t133).bind fun t134 => (some (t134, 0))) = some (r1, r2) := H
                                            have A75 := Aside0.mk A750
                                            clear A750
                                            replace H := Option.bind_eq_some_iff.mp H
                                            obtain ⟨t134, A760, H⟩ := H
                                            replace H : (some (t134, 0)) = some (r1, r2) := H
                                            have A76 := Aside0.mk A760
                                            clear A760
                                            simp only [Option.some.injEq, Prod.mk.injEq] at H
                                            obtain ⟨rfl, rfl⟩ := H
                                            go_wp2_with (first | ((with_reducible refine gate_callee (f := 73) rfl ?_); refine goesL_ (some 148) rfl rfl Try.func73 (by kernel_rfl) rfl #[.bool (decide (t106 > t107))] rfl (by (try simp only [List.map_toArray, List.map_cons, List.map_nil]); first | done | rfl | (simp only [List.length_drop, List.length_take]; rfl)) ?_; (with_reducible refine (spec_l3Yes.calls (decide (t106 > t107)) t133 _ A75.out).mono ?_); rintro e w' ⟨rfl, ⟨nd, rfl⟩⟩; refine ⟨_, rfl, ?_⟩) | ((with_reducible refine gate_callee (f := 70) rfl ?_); refine goesL_ (some 151) rfl rfl Try.func70 (by kernel_rfl) rfl #[.int .i64 a0, .int .u64 t133] rfl (by (try simp only [List.map_toArray, List.map_cons, List.map_nil]); first | done | rfl | (simp only [List.length_drop, List.length_take]; rfl)) ?_; (with_reducible refine (spec_l3Mask.calls a0 t133 t134 _ A76.out).mono ?_); rintro e w' ⟨rfl, ⟨nd, rfl⟩⟩; refine ⟨_, rfl, ?_⟩))
                                            go_ret2
                                            exact ⟨by first | rfl | (simp; done) | (simp [*]; done), by repeat (first | exact Drawn0.refl _ | apply Drawn0.step)⟩
                                          · rw [if_neg c74] at H
                                            have c74b0 : (a1 == 21) = false := beq_eq_false_iff_ne.mpr c74
                                            have c74b1 : (a1 != 21) = true := bne_iff_ne.mpr c74
                                            simp only [Option.some.injEq, Prod.mk.injEq] at H
                                            obtain ⟨rfl, rfl⟩ := H
                                            go_wp2
                                            go_ret2
                                            exact ⟨by first | rfl | (simp; done) | (simp [*]; done), by repeat (first | exact Drawn0.refl _ | apply Drawn0.step)⟩

end Go.Proofs.Ytfncjcnlndoelaa.PFnExactBinary
