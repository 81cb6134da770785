-- PRINTED BY print.sh 35421559b90ae4d0a3588c463048766b98c2df88dd9212a6774a882060cdf62d: not written by this session
import Derived.Test.YtfncjcnlndoelaaPFnExactBinaryx0
import Derived.Test.YtfncjcnlndoelaaPFnExactBinaryx2
namespace Go.Proofs.Ytfncjcnlndoelaa.PFnExactBinary
open Go.RowKit Go.Proofs.YtfncjcnlndoelaaW.PrintWords Go.Proofs.YtfncjcnlndoelaaW.PrintLast Go.Proofs.YtfncjcnlndoelaaW.PrintMore
attribute [local go_sem] max2_int min2_int max_two min_two max_three min_three max_four min_four   -- for this text's walks alone
set_option linter.unusedVariables false
set_option linter.unusedSimpArgs false

/-! ### impl_Binary: function 15 -/
mutual
def impl_Binary.j0 : Nat → Int → Int → Int → Int → Bool → Option (Int × Int)
  | 0, _, _, _, _, _ => none
  | k + 1, x0, x1, x2, x3, x21 => if x21 = true then (some (0, 3)) else ((impl_cut.f x0 x2).bind fun t154 => ((impl_cut.f x0 x3).bind fun t155 => (if (IntKind.u64.wrap (x0)) = 0 then (none) else (if x1 = 1 then ((impl_cut.f x0 (IntKind.u64.wrap (t154 + t155))).bind fun t156 => (some (t156, 0))) else (if x1 = 2 then ((impl_cut.f x0 (IntKind.u64.wrap (t154 - t155))).bind fun t157 => (some (t157, 0))) else (if x1 = 3 then ((impl_cut.f x0 (IntKind.u64.wrap (t154 * t155))).bind fun t158 => (some (t158, 0))) else (if x1 = 4 then (impl_Binary.j1 k x0 x1 t154 t155 (wrap64 (Int.tmod t155 (IntKind.u64.wrap (x0)))) x1 (x1 == 4)) else (if x1 = 5 then (impl_Binary.j1 k x0 x1 t154 t155 (wrap64 (Int.tmod t155 (IntKind.u64.wrap (x0)))) x1 (x1 == 5)) else (if x1 = 6 then (impl_Binary.j1 k x0 x1 t154 t155 (wrap64 (Int.tmod t155 (IntKind.u64.wrap (x0)))) x1 (x1 == 6)) else (impl_Binary.j1 k x0 x1 t154 t155 (wrap64 (Int.tmod t155 (IntKind.u64.wrap (x0)))) x1 (x1 == 7)))))))))))
def impl_Binary.j1 : Nat → Int → Int → Int → Int → Int → Int → Bool → Option (Int × Int)
  | 0, _, _, _, _, _, _, _ => none
  | k + 1, x0, x1, x2, x3, x10, x33, x55 => if x55 = true then ((impl_divide.f k x0 x1 x2 x3).bind fun bt159 => (some (bt159.1, bt159.2))) else (if x33 = 8 then (some (Go.bits .and .u64 x2 x3, 0)) else (if x33 = 9 then (some (Go.bits .or .u64 x2 x3, 0)) else (if x33 = 10 then (some (Go.bits .xor .u64 x2 x3, 0)) else (if x33 = 11 then (if 0 ≤ x10 then ((impl_cut.f x0 (shl .u64 x2 x10)).bind fun t161 => (some (t161, 0))) else (none)) else (if x33 = 12 then ((impl_signed.f x0 x2).bind fun t162 => (if 0 ≤ x10 then ((impl_cut.f x0 (IntKind.u64.wrap (shr .i64 t162 x10))).bind fun t163 => (some (t163, 0))) else (none))) else (if x33 = 13 then (if 0 ≤ x10 then (some (shr .u64 x2 x10, 0)) else (none)) else (if x33 = 14 then ((impl_rotl.f x0 x2 x10).bind fun t164 => (some (t164, 0))) else (if x33 = 15 then ((impl_rotl.f x0 x2 (wrap64 (-x10))).bind fun t165 => (some (t165, 0))) else ((impl_compare.f x0 x1 x2 x3).bind fun t166 => (some (t166, 0)))))))))))
end
def impl_Binary.f (k : Nat) (a0 : Int) (a1 : Int) (a2 : Int) (a3 : Int) : Option (Int × Int) := (impl_goodBits.f a0).bind fun t153 => (if t153 = true then (if a1 < 1 then (impl_Binary.j0 k a0 a1 a2 a3 true) else (impl_Binary.j0 k a0 a1 a2 a3 (decide (a1 > 21)))) else (impl_Binary.j0 k a0 a1 a2 a3 true))
theorem impl_Binary.mono_l : ∀ k, (∀ y0 y1 y2 y3 y4, LeO (impl_Binary.j0 k y0 y1 y2 y3 y4) (impl_Binary.j0 (k + 1) y0 y1 y2 y3 y4)) ∧ (∀ y0 y1 y2 y3 y4 y5 y6, LeO (impl_Binary.j1 k y0 y1 y2 y3 y4 y5 y6) (impl_Binary.j1 (k + 1) y0 y1 y2 y3 y4 y5 y6))
  | 0 => ⟨fun _ _ _ _ _ r h => by simp [impl_Binary.j0] at h, fun _ _ _ _ _ _ _ r h => by simp [impl_Binary.j1] at h⟩
  | k + 1 => by
    obtain ⟨ih0, ih1⟩ := impl_Binary.mono_l k
    refine ⟨?_, ?_⟩
    · intro y0 y1 y2 y3 y4
      unfold impl_Binary.j0
      repeat' first
      | (with_reducible exact ih0 _ _ _ _ _)
      | (with_reducible exact ih1 _ _ _ _ _ _ _)
      | (with_reducible exact impl_divide.mono _ _ _ _ _)
      | (with_reducible exact LeO.refl _)
      | (with_reducible exact LeO.none _)
      | (with_reducible refine LeO.ite ?_ ?_)
      | (with_reducible refine LeO.bind ?_ (fun _ => ?_))
      | exact ih0 _ _ _ _ _
      | exact ih1 _ _ _ _ _ _ _
      | exact impl_divide.mono _ _ _ _ _
      | exact LeO.none _
      | refine LeO.ite ?_ ?_
      | refine LeO.bind ?_ (fun _ => ?_)
    · intro y0 y1 y2 y3 y4 y5 y6
      unfold impl_Binary.j1
      repeat' first
      | (with_reducible exact ih0 _ _ _ _ _)
      | (with_reducible exact ih1 _ _ _ _ _ _ _)
      | (with_reducible exact impl_divide.mono _ _ _ _ _)
      | (with_reducible exact LeO.refl _)
      | (with_reducible exact LeO.none _)
      | (with_reducible refine LeO.ite ?_ ?_)
      | (with_reducible refine LeO.bind ?_ (fun _ => ?_))
      | exact ih0 _ _ _ _ _
      | exact ih1 _ _ _ _ _ _ _
      | exact impl_divide.mono _ _ _ _ _
      | exact LeO.none _
      | refine LeO.ite ?_ ?_
      | refine LeO.bind ?_ (fun _ => ?_)
theorem impl_Binary.mono : ∀ a0 a1 a2 a3 k, LeO (impl_Binary.f k a0 a1 a2 a3) (impl_Binary.f (k + 1) a0 a1 a2 a3) := by
  intro a0 a1 a2 a3 k
  obtain ⟨ih0, ih1⟩ := impl_Binary.mono_l k
  unfold impl_Binary.f
  repeat' first
      | (with_reducible exact ih0 _ _ _ _ _)
      | (with_reducible exact ih1 _ _ _ _ _ _ _)
      | (with_reducible exact impl_divide.mono _ _ _ _ _)
      | (with_reducible exact LeO.refl _)
      | (with_reducible exact LeO.none _)
      | (with_reducible refine LeO.ite ?_ ?_)
      | (with_reducible refine LeO.bind ?_ (fun _ => ?_))
      | exact ih0 _ _ _ _ _
      | exact ih1 _ _ _ _ _ _ _
      | exact impl_divide.mono _ _ _ _ _
      | exact LeO.none _
      | refine LeO.ite ?_ ?_
      | refine LeO.bind ?_ (fun _ => ?_)
set_option maxHeartbeats 8000000 in
set_option maxRecDepth 100000 in
theorem impl_Binary.calls (k : Nat) (a0 : Int) (a1 : Int) (a2 : Int) (a3 : Int) (r1 : Int) (r2 : Int) (w : World) (h : impl_Binary.f k a0 a1 a2 a3 = some (r1, r2)) :
    Calls Try.prog 15 #[.int .i64 a0, .int .i64 a1, .int .u64 a2, .int .u64 a3] w fun e w' => e = .returned (.tuple #[.int .u64 r1, .int .i64 r2]) ∧ Drawn0 w w' := by
  have H : ((impl_goodBits.f a0).bind fun t153 => (if t153 = true then (if a1 < 1 then (impl_Binary.j0 k a0 a1 a2 a3 true) else (impl_Binary.j0 k a0 a1 a2 a3 (decide (a1 > 21)))) else (impl_Binary.j0 k a0 a1 a2 a3 true))) = some (r1, r2) := h
  clear h
  have HC5 := Aside0.mk H
  clear H
  go_enter Try.func15, Try.ntmps15
  go_upto_region 1 with (fail)
  go_cut [21] (fun v21 wc => ∃ (kq : Nat) (x21_4 : Bool), v21 = .bool x21_4 ∧ Aside0 (impl_Binary.j0 kq a0 a1 a2 a3 x21_4 = some (r1, r2)) ∧ Aside0 (kq ≤ k) ∧ Drawn0 w wc)
  case first =>
    have H := HC5.out
    clear HC5
    replace H := Option.bind_eq_some_iff.mp H
    obtain ⟨t153, A60, H⟩ := H
    replace H : (if t153 = true then (if a1 < 1 then (impl_Binary.j0 k a0 a1 a2 a3 true) else (impl_Binary.j0 k a0 a1 a2 a3 (decide (a1 > 21)))) else (impl_Binary.j0 k a0 a1 a2 a3 true)) = some (r1, r2) := H
    have A6 := Aside0.mk A60
    clear A60
    by_cases c7 : t153 = true
    · subst c7
      have H1 : (if a1 < 1 then (impl_Binary.j0 k a0 a1 a2 a3 true) else (impl_Binary.j0 k a0 a1 a2 a3 (decide (a1 > 21)))) = some (r1, r2) := by rw [if_pos rfl] at H; exact H
      clear H
      have H := H1
      clear H1
      by_cases c8 : a1 < 1
      · rw [if_pos c8] at H
        have c8b0 : decide (a1 < 1) = true := decide_eq_true c8
        clear c8
        (first | rw [c8b0] | (simp only [i64_w, i32_w]; rw [c8b0]) | skip)
        have H' := Aside0.mk H
        clear H
        go_wp2_with (first | ((with_reducible refine gate_callee (f := 42) rfl ?_); refine goesL_ (some 12) rfl rfl Try.func42 (by kernel_rfl) rfl #[.int .i64 a0] rfl (by (try simp only [List.map_toArray, List.map_cons, List.map_nil]); first | done | rfl | (simp only [List.length_drop, List.length_take]; rfl)) ?_; (with_reducible refine (impl_goodBits.calls a0 true _ A6.out).mono ?_); rintro e w' ⟨rfl, ⟨nd, rfl⟩⟩; refine ⟨_, rfl, ?_⟩))
        go_meet
        case rel => exact ⟨_, (true), (by first | rfl | (simp; done) | (simp [*]; done)), H', ⟨by first | omega | exact Nat.le_refl _⟩, by repeat (first | exact Drawn0.refl _ | apply Drawn0.step)⟩
      · rw [if_neg c8] at H
        have c8b0 : decide (a1 < 1) = false := decide_eq_false c8
        clear c8
        (first | rw [c8b0] | (simp only [i64_w, i32_w]; rw [c8b0]) | skip)
        have H' := Aside0.mk H
        clear H
        go_wp2_with (first | ((with_reducible refine gate_callee (f := 42) rfl ?_); refine goesL_ (some 12) rfl rfl Try.func42 (by kernel_rfl) rfl #[.int .i64 a0] rfl (by (try simp only [List.map_toArray, List.map_cons, List.map_nil]); first | done | rfl | (simp only [List.length_drop, List.length_take]; rfl)) ?_; (with_reducible refine (impl_goodBits.calls a0 true _ A6.out).mono ?_); rintro e w' ⟨rfl, ⟨nd, rfl⟩⟩; refine ⟨_, rfl, ?_⟩))
        go_meet
        case rel => exact ⟨_, (decide (a1 > 21)), (by first | rfl | (simp; done) | (simp [*]; done)), H', ⟨by first | omega | exact Nat.le_refl _⟩, by repeat (first | exact Drawn0.refl _ | apply Drawn0.step)⟩
    · replace c7 := Bool.eq_false_iff.mpr c7
      subst c7
      have H1 : (impl_Binary.j0 k a0 a1 a2 a3 true) = some (r1, r2) := by rw [if_neg (show ¬ (false = true) by decide)] at H; exact H
      clear H
      have H := H1
      clear H1
      have H' := Aside0.mk H
      clear H
      go_wp2_with (first | ((with_reducible refine gate_callee (f := 42) rfl ?_); refine goesL_ (some 12) rfl rfl Try.func42 (by kernel_rfl) rfl #[.int .i64 a0] rfl (by (try simp only [List.map_toArray, List.map_cons, List.map_nil]); first | done | rfl | (simp only [List.length_drop, List.length_take]; rfl)) ?_; (with_reducible refine (impl_goodBits.calls a0 false _ A6.out).mono ?_); rintro e w' ⟨rfl, ⟨nd, rfl⟩⟩; refine ⟨_, rfl, ?_⟩))
      go_meet
      case rel => exact ⟨_, (true), (by first | rfl | (simp; done) | (simp [*]; done)), H', ⟨by first | omega | exact Nat.le_refl _⟩, by repeat (first | exact Drawn0.refl _ | apply Drawn0.step)⟩
  case rest =>
    clear HC5
    try clear c1
    try clear p2
    try clear c4
    try clear c7
    try clear c8
    try clear c8b0
    obtain ⟨kq, x21_4, rfl, HA, HJ4, ⟨mc4, rfl⟩⟩ := hcut
    cases kq with
    | zero => exact absurd HA.out (by simp [impl_Binary.j0])
    | succ kj4 =>
      have H := HA.out
      clear HA
      simp only [impl_Binary.j0] at H
      by_cases c9 : x21_4 = true
      · subst c9
        have H1 : (some (0, 3)) = some (r1, r2) := by rw [if_pos rfl] at H; exact H
        clear H
        have H := H1
        clear H1
        simp only [Option.some.injEq, Prod.mk.injEq] at H
        obtain ⟨rfl, rfl⟩ := H
        go_wp2
        go_ret2
        exact ⟨by first | rfl | (simp; done) | (simp [*]; done), by repeat (first | exact Drawn0.refl _ | apply Drawn0.step)⟩
      · replace c9 := Bool.eq_false_iff.mpr c9
        subst c9
        have H1 : ((impl_cut.f a0 a2).bind fun t154 => ((impl_cut.f a0 a3).bind fun t155 => (if (IntKind.u64.wrap (a0)) = 0 then (none) else (if a1 = 1 then ((impl_cut.f a0 (IntKind.u64.wrap (t154 + t155))).bind fun t156 => (some (t156, 0))) else (if a1 = 2 then ((impl_cut.f a0 (IntKind.u64.wrap (t154 - t155))).bind fun t157 => (some (t157, 0))) else (if a1 = 3 then ((impl_cut.f a0 (IntKind.u64.wrap (t154 * t155))).bind fun t158 => (some (t158, 0))) else (if a1 = 4 then (impl_Binary.j1 kj4 a0 a1 t154 t155 (wrap64 (Int.tmod t155 (IntKind.u64.wrap (a0)))) a1 (a1 == 4)) else (if a1 = 5 then (impl_Binary.j1 kj4 a0 a1 t154 t155 (wrap64 (Int.tmod t155 (IntKind.u64.wrap (a0)))) a1 (a1 == 5)) else (if a1 = 6 then (impl_Binary.j1 kj4 a0 a1 t154 t155 (wrap64 (Int.tmod t155 (IntKind.u64.wrap (a0)))) a1 (a1 == 6)) else (impl_Binary.j1 kj4 a0 a1 t154 t155 (wrap64 (Int.tmod t155 (IntKind.u64.wrap (a0)))) a1 (a1 == 7))))))))))) = some (r1, r2) := by rw [if_neg (show ¬ (false = true) by decide)] at H; exact H
        clear H
        have H := H1
        clear H1
        replace H := Option.bind_eq_some_iff.mp H
        obtain ⟨t154, A100, H⟩ := H
        replace H : ((impl_cut.f a0 a3).bind fun t155 => (if (IntKind.u64.wrap (a0)) = 0 then (none) else (if a1 = 1 then ((impl_cut.f a0 (IntKind.u64.wrap (t154 + t155))).bind fun t156 => (some (t156, 0))) else (if a1 = 2 then ((impl_cut.f a0 (IntKind.u64.wrap (t154 - t155))).bind fun t157 => (some (t157, 0))) else (if a1 = 3 then ((impl_cut.f a0 (IntKind.u64.wrap (t154 * t155))).bind fun t158 => (some (t158, 0))) else (if a1 = 4 then (impl_Binary.j1 kj4 a0 a1 t154 t155 (wrap64 (Int.tmod t155 (IntKind.u64.wrap (a0)))) a1 (a1 == 4)) else (if a1 = 5 then (impl_Binary.j1 kj4 a0 a1 t154 t155 (wrap64 (Int.tmod t155 (IntKind.u64.wrap (a0)))) a1 (a1 == 5)) else (if a1 = 6 then (impl_Binary.j1 kj4 a0 a1 t154 t155 (wrap64 (Int.tmod t155 (IntKind.u64.wrap (a0)))) a1 (a1 == 6)) else (impl_Binary.j1 kj4 a0 a1 t154 t155 (wrap64 (Int.tmod t155 (IntKind.u64.wrap (a0)))) a1 (a1 == 7)))))))))) = some (r1, r2) := H
        have A10 := Aside0.mk A100
        clear A100
        replace H := Option.bind_eq_some_iff.mp H
        obtain ⟨t155, A110, H⟩ := H
        replace H : (if (IntKind.u64.wrap (a0)) = 0 then (none) else (if a1 = 1 then ((impl_cut.f a0 (IntKind.u64.wrap (t154 + t155))).bind fun t156 => (some (t156, 0))) else (if a1 = 2 then ((impl_cut.f a0 (IntKind.u64.wrap (t154 - t155))).bind fun t157 => (some (t157, 0))) else (if a1 = 3 then ((impl_cut.f a0 (IntKind.u64.wrap (t154 * t155))).bind fun t158 => (some (t158, 0))) else (if a1 = 4 then (impl_Binary.j1 kj4 a0 a1 t154 t155 (wrap64 (Int.tmod t155 (IntKind.u64.wrap (a0)))) a1 (a1 == 4)) else (if a1 = 5 then (impl_Binary.j1 kj4 a0 a1 t154 t155 (wrap64 (Int.tmod t155 (IntKind.u64.wrap (a0)))) a1 (a1 == 5)) else (if a1 = 6 then (impl_Binary.j1 kj4 a0 a1 t154 t155 (wrap64 (Int.tmod t155 (IntKind.u64.wrap (a0)))) a1 (a1 == 6)) else (impl_Binary.j1 kj4 a0 a1 t154 t155 (wrap64 (Int.tmod t155 (IntKind.u64.wrap (a0)))) a1 (a1 == 7))))))))) = some (r1, r2) := H
        have A11 := Aside0.mk A110
        clear A110
        by_cases c12 : (IntKind.u64.wrap (a0)) = 0
        · rw [if_pos c12] at H
          exact absurd H (by simp)
        · rw [if_neg c12] at H
          have c12b0 : ((IntKind.u64.wrap (a0)) == 0) = false := beq_eq_false_iff_ne.mpr c12
          have c12b1 : ((IntKind.u64.wrap (a0)) != 0) = true := bne_iff_ne.mpr c12
          by_cases c13 : a1 = 1
          · rw [if_pos c13] at H
            have c13b0 : (a1 == 1) = true := beq_iff_eq.mpr c13
            have c13b1 : (a1 != 1) = false := bne_eq_false_iff_eq.mpr c13
            clear c13
            replace H := Option.bind_eq_some_iff.mp H
            obtain ⟨t156, A140, H⟩ := H
            replace H : (some (t156, 0)) = some (r1, r2) := H
            have A14 := Aside0.mk A140
            clear A140
            simp only [Option.some.injEq, Prod.mk.injEq] at H
            obtain ⟨rfl, rfl⟩ := H
            go_wp2_with (first | ((with_reducible refine gate_callee (f := 43) rfl ?_); refine goesL_ (some 24) rfl rfl Try.func43 (by kernel_rfl) rfl #[.int .i64 a0, .int .u64 a2] rfl (by (try simp only [List.map_toArray, List.map_cons, List.map_nil]); first | done | rfl | (simp only [List.length_drop, List.length_take]; rfl)) ?_; (with_reducible refine (impl_cut.calls a0 a2 t154 _ A10.out).mono ?_); rintro e w' ⟨rfl, ⟨nd, rfl⟩⟩; refine ⟨_, rfl, ?_⟩) | ((with_reducible refine gate_callee (f := 43) rfl ?_); refine goesL_ (some 27) rfl rfl Try.func43 (by kernel_rfl) rfl #[.int .i64 a0, .int .u64 a3] rfl (by (try simp only [List.map_toArray, List.map_cons, List.map_nil]); first | done | rfl | (simp only [List.length_drop, List.length_take]; rfl)) ?_; (with_reducible refine (impl_cut.calls a0 a3 t155 _ A11.out).mono ?_); rintro e w' ⟨rfl, ⟨nd, rfl⟩⟩; refine ⟨_, rfl, ?_⟩) | ((with_reducible refine gate_callee (f := 43) rfl ?_); refine goesL_ (some 40) rfl rfl Try.func43 (by kernel_rfl) rfl #[.int .i64 a0, .int .u64 (IntKind.u64.wrap (t154 + t155))] rfl (by (try simp only [List.map_toArray, List.map_cons, List.map_nil]); first | done | rfl | (simp only [List.length_drop, List.length_take]; rfl)) ?_; (with_reducible refine (impl_cut.calls a0 (IntKind.u64.wrap (t154 + t155)) t156 _ A14.out).mono ?_); rintro e w' ⟨rfl, ⟨nd, rfl⟩⟩; refine ⟨_, rfl, ?_⟩))
            go_ret2
            exact ⟨by first | rfl | (simp; done) | (simp [*]; done), by repeat (first | exact Drawn0.refl _ | apply Drawn0.step)⟩
          · rw [if_neg c13] at H
            have c13b0 : (a1 == 1) = false := beq_eq_false_iff_ne.mpr c13
            have c13b1 : (a1 != 1) = true := bne_iff_ne.mpr c13
            by_cases c15 : a1 = 2
            · rw [if_pos c15] at H
              have c15b0 : (a1 == 2) = true := beq_iff_eq.mpr c15
              have c15b1 : (a1 != 2) = false := bne_eq_false_iff_eq.mpr c15
              clear c15
              replace H := Option.bind_eq_some_iff.mp H
              obtain ⟨t157, A160, H⟩ := H
              replace H : (some (t157, 0)) = some (r1, r2) := H
              have A16 := Aside0.mk A160
              clear A160
              simp only [Option.some.injEq, Prod.mk.injEq] at H
              obtain ⟨rfl, rfl⟩ := H
              go_wp2_with (first | ((with_reducible refine gate_callee (f := 43) rfl ?_); refine goesL_ (some 24) rfl rfl Try.func43 (by kernel_rfl) rfl #[.int .i64 a0, .int .u64 a2] rfl (by (try simp only [List.map_toArray, List.map_cons, List.map_nil]); first | done | rfl | (simp only [List.length_drop, List.length_take]; rfl)) ?_; (with_reducible refine (impl_cut.calls a0 a2 t154 _ A10.out).mono ?_); rintro e w' ⟨rfl, ⟨nd, rfl⟩⟩; refine ⟨_, rfl, ?_⟩) | ((with_reducible refine gate_callee (f := 43) rfl ?_); refine goesL_ (some 27) rfl rfl Try.func43 (by kernel_rfl) rfl #[.int .i64 a0, .int .u64 a3] rfl (by (try simp only [List.map_toArray, List.map_cons, List.map_nil]); first | done | rfl | (simp only [List.length_drop, List.length_take]; rfl)) ?_; (with_reducible refine (impl_cut.calls a0 a3 t155 _ A11.out).mono ?_); rintro e w' ⟨rfl, ⟨nd, rfl⟩⟩; refine ⟨_, rfl, ?_⟩) | ((with_reducible refine gate_callee (f := 43) rfl ?_); refine goesL_ (some 47) rfl rfl Try.func43 (by kernel_rfl) rfl #[.int .i64 a0, .int .u64 (IntKind.u64.wrap (t154 - t155))] rfl (by (try simp only [List.map_toArray, List.map_cons, List.map_nil]); first | done | rfl | (simp only [List.length_drop, List.length_take]; rfl)) ?_; (with_reducible refine (impl_cut.calls a0 (IntKind.u64.wrap (t154 - t155)) t157 _ A16.out).mono ?_); rintro e w' ⟨rfl, ⟨nd, rfl⟩⟩; refine ⟨_, rfl, ?_⟩))
              go_ret2
              exact ⟨by first | rfl | (simp; done) | (simp [*]; done), by repeat (first | exact Drawn0.refl _ | apply Drawn0.step)⟩
            · rw [if_neg c15] at H
              have c15b0 : (a1 == 2) = false := beq_eq_false_iff_ne.mpr c15
              have c15b1 : (a1 != 2) = true := bne_iff_ne.mpr c15
              by_cases c17 : a1 = 3
              · rw [if_pos c17] at H
                have c17b0 : (a1 == 3) = true := beq_iff_eq.mpr c17
                have c17b1 : (a1 != 3) = false := bne_eq_false_iff_eq.mpr c17
                clear c17
                replace H := Option.bind_eq_some_iff.mp H
                obtain ⟨t158, A180, H⟩ := H
                replace H : (some (t158, 0)) = some (r1, r2) := H
                have A18 := Aside0.mk A180
                clear A180
                simp only [Option.some.injEq, Prod.mk.injEq] at H
                obtain ⟨rfl, rfl⟩ := H
                go_wp2_with (first | ((with_reducible refine gate_callee (f := 43) rfl ?_); refine goesL_ (some 24) rfl rfl Try.func43 (by kernel_rfl) rfl #[.int .i64 a0, .int .u64 a2] rfl (by (try simp only [List.map_toArray, List.map_cons, List.map_nil]); first | done | rfl | (simp only [List.length_drop, List.length_take]; rfl)) ?_; (with_reducible refine (impl_cut.calls a0 a2 t154 _ A10.out).mono ?_); rintro e w' ⟨rfl, ⟨nd, rfl⟩⟩; refine ⟨_, rfl, ?_⟩) | ((with_reducible refine gate_callee (f := 43) rfl ?_); refine goesL_ (some 27) rfl rfl Try.func43 (by kernel_rfl) rfl #[.int .i64 a0, .int .u64 a3] rfl (by (try simp only [List.map_toArray, List.map_cons, List.map_nil]); first | done | rfl | (simp only [List.length_drop, List.length_take]; rfl)) ?_; (with_reducible refine (impl_cut.calls a0 a3 t155 _ A11.out).mono ?_); rintro e w' ⟨rfl, ⟨nd, rfl⟩⟩; refine ⟨_, rfl, ?_⟩) | ((with_reducible refine gate_callee (f := 43) rfl ?_); refine goesL_ (some 54) rfl rfl Try.func43 (by kernel_rfl) rfl #[.int .i64 a0, .int .u64 (IntKind.u64.wrap (t154 * t155))] rfl (by (try simp only [List.map_toArray, List.map_cons, List.map_nil]); first | done | rfl | (simp only [List.length_drop, List.length_take]; rfl)) ?_; (with_reducible refine (impl_cut.calls a0 (IntKind.u64.wrap (t154 * t155)) t158 _ A18.out).mono ?_); rintro e w' ⟨rfl, ⟨nd, rfl⟩⟩; refine ⟨_, rfl, ?_⟩))
                go_ret2
                exact ⟨by first | rfl | (simp; done) | (simp [*]; done), by repeat (first | exact Drawn0.refl _ | apply Drawn0.step)⟩
              · rw [if_neg c17] at H
                have c17b0 : (a1 == 3) = false := beq_eq_false_iff_ne.mpr c17
                have c17b1 : (a1 != 3) = true := bne_iff_ne.mpr c17
                have HC19 := Aside0.mk H
                clear H
                go_upto_if 55 with (first | ((with_reducible refine gate_callee (f := 43) rfl ?_); refine goesL_ (some 24) rfl rfl Try.func43 (by kernel_rfl) rfl #[.int .i64 a0, .int .u64 a2] rfl (by (try simp only [List.map_toArray, List.map_cons, List.map_nil]); first | done | rfl | (simp only [List.length_drop, List.length_take]; rfl)) ?_; (with_reducible refine (impl_cut.calls a0 a2 t154 _ A10.out).mono ?_); rintro e w' ⟨rfl, ⟨nd, rfl⟩⟩; refine ⟨_, rfl, ?_⟩) | ((with_reducible refine gate_callee (f := 43) rfl ?_); refine goesL_ (some 27) rfl rfl Try.func43 (by kernel_rfl) rfl #[.int .i64 a0, .int .u64 a3] rfl (by (try simp only [List.map_toArray, List.map_cons, List.map_nil]); first | done | rfl | (simp only [List.length_drop, List.length_take]; rfl)) ?_; (with_reducible refine (impl_cut.calls a0 a3 t155 _ A11.out).mono ?_); rintro e w' ⟨rfl, ⟨nd, rfl⟩⟩; refine ⟨_, rfl, ?_⟩))
                (try simp only [Act.put, List.setIfInBounds_toArray, List.set_cons_zero, List.set_cons_succ])
                go_cut [55] (fun v55 wc => ∃ (kq : Nat) (x55_18 : Bool), v55 = .bool x55_18 ∧ Aside0 (impl_Binary.j1 kq a0 a1 t154 t155 (wrap64 (Int.tmod t155 (IntKind.u64.wrap (a0)))) a1 x55_18 = some (r1, r2)) ∧ Aside0 (kq ≤ kj4) ∧ Drawn0 w wc)
                case first =>
                  have H := HC19.out
                  clear HC19
                  by_cases c20 : a1 = 4
                  · rw [if_pos c20] at H
                    have c20b0 : (a1 == 4) = true := beq_iff_eq.mpr c20
                    have c20b1 : (a1 != 4) = false := bne_eq_false_iff_eq.mpr c20
                    clear c20
                    (first | rw [c20b0] | (simp only [i64_w, i32_w]; rw [c20b0]) | skip)
                    have H' := Aside0.mk H
                    clear H
                    go_wp2
                    go_meet
                    case rel => exact ⟨_, ((a1 == 4)), (by first | rfl | (simp; done) | (simp [*]; done)), H', ⟨by have := HJ4.out; first | omega | exact Nat.le_refl _⟩, by repeat (first | exact Drawn0.refl _ | apply Drawn0.step)⟩
                  · rw [if_neg c20] at H
                    have c20b0 : (a1 == 4) = false := beq_eq_false_iff_ne.mpr c20
                    have c20b1 : (a1 != 4) = true := bne_iff_ne.mpr c20
                    (first | rw [c20b0] | (simp only [i64_w, i32_w]; rw [c20b0]) | skip)
                    by_cases c21 : a1 = 5
                    · rw [if_pos c21] at H
                      have c21b0 : (a1 == 5) = true := beq_iff_eq.mpr c21
                      have c21b1 : (a1 != 5) = false := bne_eq_false_iff_eq.mpr c21
                      clear c21
                      have H' := Aside0.mk H
                      clear H
                      go_wp2
                      go_meet
                      case rel => exact ⟨_, ((a1 == 5)), (by first | rfl | (simp; done) | (simp [*]; done)), H', ⟨by have := HJ4.out; first | omega | exact Nat.le_refl _⟩, by repeat (first | exact Drawn0.refl _ | apply Drawn0.step)⟩
                    · rw [if_neg c21] at H
                      have c21b0 : (a1 == 5) = false := beq_eq_false_iff_ne.mpr c21
                      have c21b1 : (a1 != 5) = true := bne_iff_ne.mpr c21
                      by_cases c22 : a1 = 6
                      · rw [if_pos c22] at H
                        have c22b0 : (a1 == 6) = true := beq_iff_eq.mpr c22
                        have c22b1 : (a1 != 6) = false := bne_eq_false_iff_eq.mpr c22
                        clear c22
                        have H' := Aside0.mk H
                        clear H
                        go_wp2
                        go_meet
                        case rel => exact ⟨_, ((a1 == 6)), (by first | rfl | (simp; done) | (simp [*]; done)), H', ⟨by have := HJ4.out; first | omega | exact Nat.le_refl _⟩, by repeat (first | exact Drawn0.refl _ | apply Drawn0.step)⟩
                      · rw [if_neg c22] at H
                        have c22b0 : (a1 == 6) = false := beq_eq_false_iff_ne.mpr c22
                        have c22b1 : (a1 != 6) = true := bne_iff_ne.mpr c22
                        have H' := Aside0.mk H
                        clear H
                        go_wp2
                        go_meet
                        case rel => exact ⟨_, ((a1 == 7)), (by first | rfl | (simp; done) | (simp [*]; done)), H', ⟨by have := HJ4.out; first | omega | exact Nat.le_refl _⟩, by repeat (first | exact Drawn0.refl _ | apply Drawn0.step)⟩
                case rest =>
                  clear HC19
                  try clear c1
                  try clear c2
                  try clear p2
                  try clear c4
                  try clear p6
                  try clear c7
                  try clear c8
                  try clear c8b0
                  try clear c9
                  try clear c12
                  try clear c12b0
                  try clear c12b1
                  try clear c13
                  try clear c13b0
                  try clear c13b1
                  try clear c15
                  try clear c15b0
                  try clear c15b1
                  try clear c17
                  try clear c17b0
                  try clear c17b1
                  try clear c20
                  try clear c20b0
                  try clear c20b1
                  try clear c21
                  try clear c21b0
                  try clear c21b1
                  try clear c22
                  try clear c22b0
                  try clear c22b1
                  try clear p2
                  obtain ⟨kq, x55_18, rfl, HA, HJ18, ⟨mc18, rfl⟩⟩ := hcut
                  cases kq with
                  | zero => exact absurd HA.out (by simp [impl_Binary.j1])
                  | succ kj18 =>
                    have H := HA.out
                    clear HA
                    simp only [impl_Binary.j1] at H
                    by_cases c23 : x55_18 = true
                    · subst c23
                      have H1 : ((impl_divide.f kj18 a0 a1 t154 t155).bind fun bt159 => (some (bt159.1, bt159.2))) = some (r1, r2) := by rw [if_pos rfl] at H; exact H
                      clear H
                      have H := H1
                      clear H1
                      replace H := Option.bind_eq_some_iff.mp H
                      obtain ⟨⟨t159, t160⟩, A240, H⟩ := H
                      replace H : (some (t159, t160)) = some (r1, r2) := H
                      have A24 := Aside0.mk A240
                      clear A240
                      simp only [Option.some.injEq, Prod.mk.injEq] at H
                      obtain ⟨rfl, rfl⟩ := H
                      go_wp2_with (first | ((with_reducible refine gate_callee (f := 44) rfl ?_); refine goesL_ (some 64) rfl rfl Try.func44 (by kernel_rfl) rfl #[.int .i64 a0, .int .i64 a1, .int .u64 t154, .int .u64 t155] rfl (by (try simp only [List.map_toArray, List.map_cons, List.map_nil]); first | done | rfl | (simp only [List.length_drop, List.length_take]; rfl)) ?_; (with_reducible refine (impl_divide.calls kj18 a0 a1 t154 t155 t159 t160 _ A24.out).mono ?_); rintro e w' ⟨rfl, ⟨nd, rfl⟩⟩; refine ⟨_, rfl, ?_⟩))
                      go_ret2
                      exact ⟨by first | rfl | (simp; done) | (simp [*]; done), by repeat (first | exact Drawn0.refl _ | apply Drawn0.step)⟩
                    · replace c23 := Bool.eq_false_iff.mpr c23
                      subst c23
                      have H1 : (if a1 = 8 then (some (Go.bits .and .u64 t154 t155, 0)) else (if a1 = 9 then (some (Go.bits .or .u64 t154 t155, 0)) else (if a1 = 10 then (some (Go.bits .xor .u64 t154 t155, 0)) else (if a1 = 11 then (if 0 ≤ (wrap64 (Int.tmod t155 (IntKind.u64.wrap (a0)))) then ((impl_cut.f a0 (shl .u64 t154 (wrap64 (Int.tmod t155 (IntKind.u64.wrap (a0)))))).bind fun t161 => (some (t161, 0))) else (none)) else (if a1 = 12 then ((impl_signed.f a0 t154).bind fun t162 => (if 0 ≤ (wrap64 (Int.tmod t155 (IntKind.u64.wrap (a0)))) then ((impl_cut.f a0 (IntKind.u64.wrap (shr .i64 t162 (wrap64 (Int.tmod t155 (IntKind.u64.wrap (a0))))))).bind fun t163 => (some (t163, 0))) else (none))) else (if a1 = 13 then (if 0 ≤ (wrap64 (Int.tmod t155 (IntKind.u64.wrap (a0)))) then (some (shr .u64 t154 (wrap64 (Int.tmod t155 (IntKind.u64.wrap (a0)))), 0)) else (none)) else (if a1 = 14 then ((impl_rotl.f a0 t154 (wrap64 (Int.tmod t155 (IntKind.u64.wrap (a0))))).bind fun t164 => (some (t164, 0))) else (if a1 = 15 then ((impl_rotl.f a0 t154 (wrap64 (-(wrap64 (Int.tmod t155 (IntKind.u64.wrap (a0))))))).bind fun t165 => (some (t165, 0))) else ((impl_compare.f a0 a1 t154 t155).bind fun t166 => (some (t166, 0))))))))))) = some (r1, r2) := by rw [if_neg (show ¬ (false = true) by decide)] at H; exact H
                      clear H
                      have H := H1
                      clear H1
                      by_cases c25 : a1 = 8
                      · rw [if_pos c25] at H
                        have c25b0 : (a1 == 8) = true := beq_iff_eq.mpr c25
                        have c25b1 : (a1 != 8) = false := bne_eq_false_iff_eq.mpr c25
                        clear c25
                        simp only [Option.some.injEq, Prod.mk.injEq] at H
                        obtain ⟨rfl, rfl⟩ := H
                        go_wp2
                        go_ret2
                        exact ⟨by first | rfl | (simp; done) | (simp [*]; done), by repeat (first | exact Drawn0.refl _ | apply Drawn0.step)⟩
                      · rw [if_neg c25] at H
                        have c25b0 : (a1 == 8) = false := beq_eq_false_iff_ne.mpr c25
                        have c25b1 : (a1 != 8) = true := bne_iff_ne.mpr c25
                        by_cases c26 : a1 = 9
                        · rw [if_pos c26] at H
                          have c26b0 : (a1 == 9) = true := beq_iff_eq.mpr c26
                          have c26b1 : (a1 != 9) = false := bne_eq_false_iff_eq.mpr c26
                          clear c26
                          simp only [Option.some.injEq, Prod.mk.injEq] at H
                          obtain ⟨rfl, rfl⟩ := H
                          go_wp2
                          go_ret2
                          exact ⟨by first | rfl | (simp; done) | (simp [*]; done), by repeat (first | exact Drawn0.refl _ | apply Drawn0.step)⟩
                        · rw [if_neg c26] at H
                          have c26b0 : (a1 == 9) = false := beq_eq_false_iff_ne.mpr c26
                          have c26b1 : (a1 != 9) = true := bne_iff_ne.mpr c26
                          by_cases c27 : a1 = 10
                          · rw [if_pos c27] at H
                            have c27b0 : (a1 == 10) = true := beq_iff_eq.mpr c27
                            have c27b1 : (a1 != 10) = false := bne_eq_false_iff_eq.mpr c27
                            clear c27
                            simp only [Option.some.injEq, Prod.mk.injEq] at H
                            obtain ⟨rfl, rfl⟩ := H
                            go_wp2
                            go_ret2
                            exact ⟨by first | rfl | (simp; done) | (simp [*]; done), by repeat (first | exact Drawn0.refl _ | apply Drawn0.step)⟩
                          · rw [if_neg c27] at H
                            have c27b0 : (a1 == 10) = false := beq_eq_false_iff_ne.mpr c27
                            have c27b1 : (a1 != 10) = true := bne_iff_ne.mpr c27
                            by_cases c28 : a1 = 11
                            · rw [if_pos c28] at H
                              have c28b0 : (a1 == 11) = true := beq_iff_eq.mpr c28
                              have c28b1 : (a1 != 11) = false := bne_eq_false_iff_eq.mpr c28
                              clear c28
                              obtain ⟨ji29, hji29⟩ : ∃ j_ : Int, (wrap64 (Int.tmod t155 (IntKind.u64.wrap (a0)))) = j_ := ⟨_, rfl⟩
                              replace H : (if 0 ≤ (ji29) then ((impl_cut.f a0 (shl .u64 t154 (ji29))).bind fun t161 => (some (t161, 0))) else (none)) = some (r1, r2) := by first | (rw [hji29] at H; exact H) | (simp only [hji29] at H ⊢; exact H)
                              have hji29w : (IntKind.i64.wrap (Int.tmod t155 (IntKind.u64.wrap (a0)))) = ji29 := (i64_w _).trans hji29
                              by_cases c30 : 0 ≤ (ji29)
                              · rw [if_pos c30] at H
                                have c30b0 := eq_true c30
                                have c30b1 : decide (0 ≤ (ji29)) = true := decide_eq_true c30
                                clear c30
                                obtain ⟨ji31, hji31⟩ : ∃ j_ : Int, (shl .u64 t154 (ji29)) = j_ := ⟨_, rfl⟩
                                replace H : ((impl_cut.f a0 (ji31)).bind fun t161 => (some (t161, 0))) = some (r1, r2) := by first | (rw [hji31] at H; exact H) | (simp only [hji31] at H ⊢; exact H)
                                have hji31_ : (IntKind.u64.wrap (t154 * 2 ^ min (ji29).toNat 64)) = ji31 := hji31
                                have hji31z : (ji29) ≤ 64 → (IntKind.u64.wrap (t154 * 2 ^ (ji29).toNat)) = ji31 := shl_small hji31
                                replace H := Option.bind_eq_some_iff.mp H
                                obtain ⟨t161, A320, H⟩ := H
                                replace H : (some (t161, 0)) = some (r1, r2) := H
                                have A32 := Aside0.mk A320
                                clear A320
                                simp only [Option.some.injEq, Prod.mk.injEq] at H
                                obtain ⟨rfl, rfl⟩ := H
                                go_wp2_with (first | ((with_reducible refine gate_callee (f := 43) rfl ?_); refine goesL_ (some 88) rfl rfl Try.func43 (by kernel_rfl) rfl #[.int .i64 a0, .int .u64 ji31] rfl (by (try simp only [List.map_toArray, List.map_cons, List.map_nil]); first | done | (simp only [hji31]; rfl) | rfl | (simp only [List.length_drop, List.length_take]; rfl)) ?_; (with_reducible refine (impl_cut.calls a0 ji31 t161 _ A32.out).mono ?_); rintro e w' ⟨rfl, ⟨nd, rfl⟩⟩; refine ⟨_, rfl, ?_⟩))
                                go_ret2
                                exact ⟨by first | rfl | (simp; done) | (simp only [← hji29, ← hji31] <;> (first | rfl | simp)) | (simp [*]; done), by repeat (first | exact Drawn0.refl _ | apply Drawn0.step)⟩
                              · rw [if_neg c30] at H
                                exact absurd H (by simp)
                            · rw [if_neg c28] at H
                              have c28b0 : (a1 == 11) = false := beq_eq_false_iff_ne.mpr c28
                              have c28b1 : (a1 != 11) = true := bne_iff_ne.mpr c28
                              by_cases c33 : a1 = 12
                              · rw [if_pos c33] at H
                                have c33b0 : (a1 == 12) = true := beq_iff_eq.mpr c33
                                have c33b1 : (a1 != 12) = false := bne_eq_false_iff_eq.mpr c33
                                clear c33
                                replace H := Option.bind_eq_some_iff.mp H
                                obtain ⟨t162, A340, H⟩ := H
                                replace H : (if 0 ≤ (wrap64 (Int.tmod t155 (IntKind.u64.wrap (a0)))) then ((impl_cut.f a0 (IntKind.u64.wrap (shr .i64 t162 (wrap64 (Int.tmod t155 (IntKind.u64.wrap (a0))))))).bind fun t163 => (some (t163, 0))) else (none)) = some (r1, r2) := H
                                have A34 := Aside0.mk A340
                                clear A340
                                obtain ⟨ji35, hji35⟩ : ∃ j_ : Int, (wrap64 (Int.tmod t155 (IntKind.u64.wrap (a0)))) = j_ := ⟨_, rfl⟩
                                replace H : (if 0 ≤ (ji35) then ((impl_cut.f a0 (IntKind.u64.wrap (shr .i64 t162 (ji35)))).bind fun t163 => (some (t163, 0))) else (none)) = some (r1, r2) := by first | (rw [hji35] at H; exact H) | (simp only [hji35] at H ⊢; exact H)
                                (try rw [hji35] at A34)
                                have hji35w : (IntKind.i64.wrap (Int.tmod t155 (IntKind.u64.wrap (a0)))) = ji35 := (i64_w _).trans hji35
                                by_cases c36 : 0 ≤ (ji35)
                                · rw [if_pos c36] at H
                                  have c36b0 := eq_true c36
                                  have c36b1 : decide (0 ≤ (ji35)) = true := decide_eq_true c36
                                  clear c36
                                  obtain ⟨ji37, hji37⟩ : ∃ j_ : Int, (shr .i64 t162 (ji35)) = j_ := ⟨_, rfl⟩
                                  replace H : ((impl_cut.f a0 (IntKind.u64.wrap (ji37))).bind fun t163 => (some (t163, 0))) = some (r1, r2) := by first | (rw [hji37] at H; exact H) | (simp only [hji37] at H ⊢; exact H)
                                  (try rw [hji37] at A34)
                                  have hji37_ : (t162 / 2 ^ min (ji35).toNat 64) = ji37 := hji37
                                  have hji37z : (ji35) ≤ 64 → (t162 / 2 ^ (ji35).toNat) = ji37 := shr_small hji37
                                  replace H := Option.bind_eq_some_iff.mp H
                                  obtain ⟨t163, A380, H⟩ := H
                                  replace H : (some (t163, 0)) = some (r1, r2) := H
                                  have A38 := Aside0.mk A380
                                  clear A380
                                  simp only [Option.some.injEq, Prod.mk.injEq] at H
                                  obtain ⟨rfl, rfl⟩ := H
                                  go_wp2_with (first | ((with_reducible refine gate_callee (f := 45) rfl ?_); refine goesL_ (some 94) rfl rfl Try.func45 (by kernel_rfl) rfl #[.int .i64 a0, .int .u64 t154] rfl (by (try simp only [List.map_toArray, List.map_cons, List.map_nil]); first | done | rfl | (simp only [List.length_drop, List.length_take]; rfl)) ?_; (with_reducible refine (impl_signed.calls a0 t154 t162 _ A34.out).mono ?_); rintro e w' ⟨rfl, ⟨nd, rfl⟩⟩; refine ⟨_, rfl, ?_⟩) | ((with_reducible refine gate_callee (f := 43) rfl ?_); refine goesL_ (some 98) rfl rfl Try.func43 (by kernel_rfl) rfl #[.int .i64 a0, .int .u64 (IntKind.u64.wrap (ji37))] rfl (by (try simp only [List.map_toArray, List.map_cons, List.map_nil]); first | done | (simp only [hji37]; rfl) | rfl | (simp only [List.length_drop, List.length_take]; rfl)) ?_; (with_reducible refine (impl_cut.calls a0 (IntKind.u64.wrap (ji37)) t163 _ A38.out).mono ?_); rintro e w' ⟨rfl, ⟨nd, rfl⟩⟩; refine ⟨_, rfl, ?_⟩))
                                  go_ret2
                                  exact ⟨by first | rfl | (simp; done) | (simp only [← hji35, ← hji37] <;> (first | rfl | simp)) | (simp [*]; done), by repeat (first | exact Drawn0.refl _ | apply Drawn0.step)⟩
                                · rw [if_neg c36] at H
                                  exact absurd H (by simp)
                              · rw [if_neg c33] at H
                                have c33b0 : (a1 == 12) = false := beq_eq_false_iff_ne.mpr c33
                                have c33b1 : (a1 != 12) = true := bne_iff_ne.mpr c33
                                by_cases c39 : a1 = 13
                                · rw [if_pos c39] at H
                                  have c39b0 : (a1 == 13) = true := beq_iff_eq.mpr c39
                                  have c39b1 : (a1 != 13) = false := bne_eq_false_iff_eq.mpr c39
                                  clear c39
                                  obtain ⟨ji40, hji40⟩ : ∃ j_ : Int, (wrap64 (Int.tmod t155 (IntKind.u64.wrap (a0)))) = j_ := ⟨_, rfl⟩
                                  replace H : (if 0 ≤ (ji40) then (some (shr .u64 t154 (ji40), 0)) else (none)) = some (r1, r2) := by first | (rw [hji40] at H; exact H) | (simp only [hji40] at H ⊢; exact H)
                                  have hji40w : (IntKind.i64.wrap (Int.tmod t155 (IntKind.u64.wrap (a0)))) = ji40 := (i64_w _).trans hji40
                                  by_cases c41 : 0 ≤ (ji40)
                                  · rw [if_pos c41] at H
                                    have c41b0 := eq_true c41
                                    have c41b1 : decide (0 ≤ (ji40)) = true := decide_eq_true c41
                                    clear c41
                                    obtain ⟨ji42, hji42⟩ : ∃ j_ : Int, (shr .u64 t154 (ji40)) = j_ := ⟨_, rfl⟩
                                    replace H : (some (ji42, 0)) = some (r1, r2) := by first | (rw [hji42] at H; exact H) | (simp only [hji42] at H ⊢; exact H)
                                    have hji42_ : (t154 / 2 ^ min (ji40).toNat 64) = ji42 := hji42
                                    have hji42z : (ji40) ≤ 64 → (t154 / 2 ^ (ji40).toNat) = ji42 := shr_small hji42
                                    simp only [Option.some.injEq, Prod.mk.injEq] at H
                                    obtain ⟨rfl, rfl⟩ := H
                                    go_wp2
                                    go_ret2
                                    exact ⟨by first | rfl | (simp; done) | (simp only [← hji40, ← hji42] <;> (first | rfl | simp)) | (simp [*]; done), by repeat (first | exact Drawn0.refl _ | apply Drawn0.step)⟩
                                  · rw [if_neg c41] at H
                                    exact absurd H (by simp)
                                · rw [if_neg c39] at H
                                  have c39b0 : (a1 == 13) = false := beq_eq_false_iff_ne.mpr c39
                                  have c39b1 : (a1 != 13) = true := bne_iff_ne.mpr c39
                                  by_cases c43 : a1 = 14
                                  · rw [if_pos c43] at H
                                    have c43b0 : (a1 == 14) = true := beq_iff_eq.mpr c43
                                    have c43b1 : (a1 != 14) = false := bne_eq_false_iff_eq.mpr c43
                                    clear c43
                                    replace H := Option.bind_eq_some_iff.mp H
                                    obtain ⟨t164, A440, H⟩ := H
                                    replace H : (some (t164, 0)) = some (r1, r2) := H
                                    have A44 := Aside0.mk A440
                                    clear A440
                                    simp only [Option.some.injEq, Prod.mk.injEq] at H
                                    obtain ⟨rfl, rfl⟩ := H
                                    go_wp2_with (first | ((with_reducible refine gate_callee (f := 46) rfl ?_); refine goesL_ (some 109) rfl rfl Try.func46 (by kernel_rfl) rfl #[.int .i64 a0, .int .u64 t154, .int .i64 (wrap64 (Int.tmod t155 (IntKind.u64.wrap (a0))))] rfl (by (try simp only [List.map_toArray, List.map_cons, List.map_nil]); first | done | rfl | (simp only [List.length_drop, List.length_take]; rfl)) ?_; (with_reducible refine (impl_rotl.calls a0 t154 (wrap64 (Int.tmod t155 (IntKind.u64.wrap (a0)))) t164 _ A44.out).mono ?_); rintro e w' ⟨rfl, ⟨nd, rfl⟩⟩; refine ⟨_, rfl, ?_⟩))
                                    go_ret2
                                    exact ⟨by first | rfl | (simp; done) | (simp [*]; done), by repeat (first | exact Drawn0.refl _ | apply Drawn0.step)⟩
                                  · rw [if_neg c43] at H
                                    have c43b0 : (a1 == 14) = false := beq_eq_false_iff_ne.mpr c43
                                    have c43b1 : (a1 != 14) = true := bne_iff_ne.mpr c43
                                    by_cases c45 : a1 = 15
                                    · rw [if_pos c45] at H
                                      have c45b0 : (a1 == 15) = true := beq_iff_eq.mpr c45
                                      have c45b1 : (a1 != 15) = false := bne_eq_false_iff_eq.mpr c45
                                      clear c45
                                      replace H := Option.bind_eq_some_iff.mp H
                                      obtain ⟨t165, A460, H⟩ := H
                                      replace H : (some (t165, 0)) = some (r1, r2) := H
                                      have A46 := Aside0.mk A460
                                      clear A460
                                      simp only [Option.some.injEq, Prod.mk.injEq] at H
                                      obtain ⟨rfl, rfl⟩ := H
                                      go_wp2_with (first | ((with_reducible refine gate_callee (f := 46) rfl ?_); refine goesL_ (some 116) rfl rfl Try.func46 (by kernel_rfl) rfl #[.int .i64 a0, .int .u64 t154, .int .i64 (wrap64 (-(wrap64 (Int.tmod t155 (IntKind.u64.wrap (a0))))))] rfl (by (try simp only [List.map_toArray, List.map_cons, List.map_nil]); first | done | rfl | (simp only [List.length_drop, List.length_take]; rfl)) ?_; (with_reducible refine (impl_rotl.calls a0 t154 (wrap64 (-(wrap64 (Int.tmod t155 (IntKind.u64.wrap (a0)))))) t165 _ A46.out).mono ?_); rintro e w' ⟨rfl, ⟨nd, rfl⟩⟩; refine ⟨_, rfl, ?_⟩))
                                      go_ret2
                                      exact ⟨by first | rfl | (simp; done) | (simp [*]; done), by repeat (first | exact Drawn0.refl _ | apply Drawn0.step)⟩
                                    · rw [if_neg c45] at H
                                      have c45b0 : (a1 == 15) = false := beq_eq_false_iff_ne.mpr c45
                                      have c45b1 : (a1 != 15) = true := bne_iff_ne.mpr c45
                                      replace H := Option.bind_eq_some_iff.mp H
                                      obtain ⟨t166, A470, H⟩ := H
                                      replace H : (some (t166, 0)) = some (r1, r2) := H
                                      have A47 := Aside0.mk A470
                                      clear A470
                                      simp only [Option.some.injEq, Prod.mk.injEq] at H
                                      obtain ⟨rfl, rfl⟩ := H
                                      go_wp2_with (first | ((with_reducible refine gate_callee (f := 47) rfl ?_); refine goesL_ (some 121) rfl rfl Try.func47 (by kernel_rfl) rfl #[.int .i64 a0, .int .i64 a1, .int .u64 t154, .int .u64 t155] rfl (by (try simp only [List.map_toArray, List.map_cons, List.map_nil]); first | done | rfl | (simp only [List.length_drop, List.length_take]; rfl)) ?_; (with_reducible refine (impl_compare.calls a0 a1 t154 t155 t166 _ A47.out).mono ?_); rintro e w' ⟨rfl, ⟨nd, rfl⟩⟩; refine ⟨_, rfl, ?_⟩))
                                      go_ret2
                                      exact ⟨by first | rfl | (simp; done) | (simp [*]; done), by repeat (first | exact Drawn0.refl _ | apply Drawn0.step)⟩

/-! ### laws_FnExactBinary: function 4 -/
def laws_FnExactBinary.f (k : Nat) (a0 : Int) (a1 : Int) (a2 : Int) (a3 : Int) : Option (Bool) := (spec_Binary.f k a0 a1 a2 a3).bind fun bt167 => ((impl_Binary.f k a0 a1 a2 a3).bind fun bt169 => (if bt169.1 = bt167.1 then (if bt169.2 = bt167.2 then (some true) else (some false)) else (some false)))
theorem laws_FnExactBinary.mono : ∀ a0 a1 a2 a3 k, LeO (laws_FnExactBinary.f k a0 a1 a2 a3) (laws_FnExactBinary.f (k + 1) a0 a1 a2 a3) := by
  intro a0 a1 a2 a3 k
  unfold laws_FnExactBinary.f
  repeat' first
      | (with_reducible exact impl_Binary.mono _ _ _ _ _)
      | (with_reducible exact spec_Binary.mono _ _ _ _ _)
      | (with_reducible exact LeO.refl _)
      | (with_reducible exact LeO.none _)
      | (with_reducible refine LeO.ite ?_ ?_)
      | (with_reducible refine LeO.bind ?_ (fun _ => ?_))
      | exact impl_Binary.mono _ _ _ _ _
      | exact spec_Binary.mono _ _ _ _ _
      | exact LeO.none _
      | refine LeO.ite ?_ ?_
      | refine LeO.bind ?_ (fun _ => ?_)
set_option maxHeartbeats 8000000 in
set_option maxRecDepth 100000 in
theorem laws_FnExactBinary.calls (k : Nat) (a0 : Int) (a1 : Int) (a2 : Int) (a3 : Int) (r : Bool) (w : World) (h : laws_FnExactBinary.f k a0 a1 a2 a3 = some r) :
    Calls Try.prog 4 #[.int .i64 a0, .int .i64 a1, .int .u64 a2, .int .u64 a3] w fun e w' => e = .returned (.bool r) ∧ Drawn0 w w' := by
  have H : ((spec_Binary.f k a0 a1 a2 a3).bind fun bt167 => ((impl_Binary.f k a0 a1 a2 a3).bind fun bt169 => (if bt169.1 = bt167.1 then (if bt169.2 = bt167.2 then (some true) else (some false)) else (some false)))) = some r := h
  clear h
  replace H := Option.bind_eq_some_iff.mp H
  obtain ⟨⟨t167, t168⟩, A50, H⟩ := H
  replace H : ((impl_Binary.f k a0 a1 a2 a3).bind fun bt169 => (if bt169.1 = t167 then (if bt169.2 = t168 then (some true) else (some false)) else (some false))) = some r := H
  have A5 := Aside0.mk A50
  clear A50
  replace H := Option.bind_eq_some_iff.mp H
  obtain ⟨⟨t169, t170⟩, A60, H⟩ := H
  replace H : (if t169 = t167 then (if t170 = t168 then (some true) else (some false)) else (some false)) = some r := H
  have A6 := Aside0.mk A60
  clear A60
  by_cases c7 : t169 = t167
  · rw [if_pos c7] at H
    have c7b0 : (t169 == t167) = true := beq_iff_eq.mpr c7
    have c7b1 : (t169 != t167) = false := bne_eq_false_iff_eq.mpr c7
    clear c7
    by_cases c8 : t170 = t168
    · rw [if_pos c8] at H
      have c8b0 : (t170 == t168) = true := beq_iff_eq.mpr c8
      have c8b1 : (t170 != t168) = false := bne_eq_false_iff_eq.mpr c8
      clear c8
      obtain rfl := Option.some.inj H
      go_enter Try.func4, Try.ntmps4
      go_wp2_with (first | ((with_reducible refine gate_callee (f := 14) rfl ?_); refine goesL_ (some 18) rfl rfl Try.func14 (by kernel_rfl) rfl #[.int .i64 a0, .int .i64 a1, .int .u64 a2, .int .u64 a3] rfl (by (try simp only [List.map_toArray, List.map_cons, List.map_nil]); first | done | rfl | (simp only [List.length_drop, List.length_take]; rfl)) ?_; (with_reducible refine (spec_Binary.calls k a0 a1 a2 a3 t167 t168 _ A5.out).mono ?_); rintro e w' ⟨rfl, ⟨nd, rfl⟩⟩; refine ⟨_, rfl, ?_⟩) | ((with_reducible refine gate_callee (f := 15) rfl ?_); refine goesL_ (some 26) rfl rfl Try.func15 (by kernel_rfl) rfl #[.int .i64 a0, .int .i64 a1, .int .u64 a2, .int .u64 a3] rfl (by (try simp only [List.map_toArray, List.map_cons, List.map_nil]); first | done | rfl | (simp only [List.length_drop, List.length_take]; rfl)) ?_; (with_reducible refine (impl_Binary.calls k a0 a1 a2 a3 t169 t170 _ A6.out).mono ?_); rintro e w' ⟨rfl, ⟨nd, rfl⟩⟩; refine ⟨_, rfl, ?_⟩))
      go_ret
      exact ⟨by first | rfl | (simp; done) | (simp [*]; done), by repeat (first | exact Drawn0.refl _ | apply Drawn0.step)⟩
    · rw [if_neg c8] at H
      have c8b0 : (t170 == t168) = false := beq_eq_false_iff_ne.mpr c8
      have c8b1 : (t170 != t168) = true := bne_iff_ne.mpr c8
      obtain rfl := Option.some.inj H
      go_enter Try.func4, Try.ntmps4
      go_wp2_with (first | ((with_reducible refine gate_callee (f := 14) rfl ?_); refine goesL_ (some 18) rfl rfl Try.func14 (by kernel_rfl) rfl #[.int .i64 a0, .int .i64 a1, .int .u64 a2, .int .u64 a3] rfl (by (try simp only [List.map_toArray, List.map_cons, List.map_nil]); first | done | rfl | (simp only [List.length_drop, List.length_take]; rfl)) ?_; (with_reducible refine (spec_Binary.calls k a0 a1 a2 a3 t167 t168 _ A5.out).mono ?_); rintro e w' ⟨rfl, ⟨nd, rfl⟩⟩; refine ⟨_, rfl, ?_⟩) | ((with_reducible refine gate_callee (f := 15) rfl ?_); refine goesL_ (some 26) rfl rfl Try.func15 (by kernel_rfl) rfl #[.int .i64 a0, .int .i64 a1, .int .u64 a2, .int .u64 a3] rfl (by (try simp only [List.map_toArray, List.map_cons, List.map_nil]); first | done | rfl | (simp only [List.length_drop, List.length_take]; rfl)) ?_; (with_reducible refine (impl_Binary.calls k a0 a1 a2 a3 t169 t170 _ A6.out).mono ?_); rintro e w' ⟨rfl, ⟨nd, rfl⟩⟩; refine ⟨_, rfl, ?_⟩))
      go_ret
      exact ⟨by first | rfl | (simp; done) | (simp [*]; done), by repeat (first | exact Drawn0.refl _ | apply Drawn0.step)⟩
  · rw [if_neg c7] at H
    have c7b0 : (t169 == t167) = false := beq_eq_false_iff_ne.mpr c7
    have c7b1 : (t169 != t167) = true := bne_iff_ne.mpr c7
    obtain rfl := Option.some.inj H
    go_enter Try.func4, Try.ntmps4
    go_wp2_with (first | ((with_reducible refine gate_callee (f := 14) rfl ?_); refine goesL_ (some 18) rfl rfl Try.func14 (by kernel_rfl) rfl #[.int .i64 a0, .int .i64 a1, .int .u64 a2, .int .u64 a3] rfl (by (try simp only [List.map_toArray, List.map_cons, List.map_nil]); first | done | rfl | (simp only [List.length_drop, List.length_take]; rfl)) ?_; (with_reducible refine (spec_Binary.calls k a0 a1 a2 a3 t167 t168 _ A5.out).mono ?_); rintro e w' ⟨rfl, ⟨nd, rfl⟩⟩; refine ⟨_, rfl, ?_⟩) | ((with_reducible refine gate_callee (f := 15) rfl ?_); refine goesL_ (some 26) rfl rfl Try.func15 (by kernel_rfl) rfl #[.int .i64 a0, .int .i64 a1, .int .u64 a2, .int .u64 a3] rfl (by (try simp only [List.map_toArray, List.map_cons, List.map_nil]); first | done | rfl | (simp only [List.length_drop, List.length_take]; rfl)) ?_; (with_reducible refine (impl_Binary.calls k a0 a1 a2 a3 t169 t170 _ A6.out).mono ?_); rintro e w' ⟨rfl, ⟨nd, rfl⟩⟩; refine ⟨_, rfl, ?_⟩))
    go_ret
    exact ⟨by first | rfl | (simp; done) | (simp [*]; done), by repeat (first | exact Drawn0.refl _ | apply Drawn0.step)⟩

/-- THE ONE PURE STATEMENT of laws_FnExactBinary: yours. -/
def laws_FnExactBinary.Pure : Prop := ∀ (a0 : Int) (a1 : Int) (a2 : Int) (a3 : Int), (Lit.int .i64 a0).wf = true → (Lit.int .i64 a1).wf = true → (Lit.int .u64 a2).wf = true → (Lit.int .u64 a3).wf = true → ∃ k, laws_FnExactBinary.f k a0 a1 a2 a3 = some true
theorem laws_FnExactBinary.walk (P : laws_FnExactBinary.Pure) (a0 : Int) (a1 : Int) (a2 : Int) (a3 : Int) (w : World) (w0 : (Lit.int .i64 a0).wf = true) (w1 : (Lit.int .i64 a1).wf = true) (w2 : (Lit.int .u64 a2).wf = true) (w3 : (Lit.int .u64 a3).wf = true) :
    Calls Try.prog 4 #[.int .i64 a0, .int .i64 a1, .int .u64 a2, .int .u64 a3] w fun e w' => e = .returned (.bool true) ∧ Below w.heap.size w w' := by
  obtain ⟨k, h⟩ := P a0 a1 a2 a3 w0 w1 w2 w3
  refine (laws_FnExactBinary.calls k a0 a1 a2 a3 true w h).mono ?_
  rintro e w' ⟨rfl, hd⟩
  exact ⟨rfl, hd.below⟩

end Go.Proofs.Ytfncjcnlndoelaa.PFnExactBinary
