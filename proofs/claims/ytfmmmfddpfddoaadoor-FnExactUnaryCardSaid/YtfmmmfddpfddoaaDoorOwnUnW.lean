/- Unary operations on whole numbers: the program's functions, walked; no condition beside a number's range and the table's laying. -/
import Derived.Test.YtfmmmfddpfddoaaDoorOwnUnP
import Derived.Test.YtfmmmfddpfddoaaDoorProg
import Derived.Test.YtfmmmfddpfddoaaDoorShelf
import Derived.Outline
import Derived.WalkKit
import Derived.RegionTactic
import Derived.ChangeAlike
import Derived.Deep.QuietTactic
import Derived.BigQuiet
import Derived.BigRegion
namespace Go.Proofs.YtfmmmfddpfddoaaDoor.OwnUnW
open Go Go.RowKit Go.Proofs.YtfmmmfddpfddoaaDoorW.PrintWords Go.Proofs.YtfmmmfddpfddoaaDoorW.PrintLast Go.Proofs.YtfmmmfddpfddoaaDoorW.PrintMore Go.Proofs.YtfmmmfddpfddoaaDoor.OwnPopP Go.Proofs.YtfmmmfddpfddoaaDoor.OwnUnP
set_option linter.unusedVariables false
set_option linter.unusedSimpArgs false
theorem and_nat (x c : Nat) (hx : x < 18446744073709551616) (hc : c < 18446744073709551616) : bits .and .u64 (x : Int) (c : Int) = ((x &&& c : Nat) : Int) := bits_and_u64_nat x c hx hc
set_option maxRecDepth 100000 in
set_option maxHeartbeats 8000000 in
theorem ones_core (x Y1 Y2 Y3 Y4 Y5 Y6 P : Int) (e1 : IntKind.u64.wrap (bits .and .u64 (x / 2) 6148914691236517205 + bits .and .u64 x 6148914691236517205) = Y1) (e2 : IntKind.u64.wrap (bits .and .u64 (Y1 / 4) 3689348814741910323 + bits .and .u64 Y1 3689348814741910323) = Y2) (e3 : bits .and .u64 (IntKind.u64.wrap (Y2 / 16 + Y2)) 1085102592571150095 = Y3) (e4 : IntKind.u64.wrap (Y3 + Y3 / 256) = Y4) (e5 : IntKind.u64.wrap (Y4 + Y4 / 65536) = Y5) (e6 : IntKind.u64.wrap (Y5 + Y5 / 4294967296) = Y6) (e7 : bits .and .i64 (wrap64 Y6) 127 = P) (w : World) : Calls Tryd.prog 20 #[.int .u64 x] w fun e w' => e = .returned (.int .i64 P) ∧ w' = w := by
  go_enter Tryd.func20, Tryd.ntmps20
  go_wp2
  go_ret
  exact ⟨rfl, rfl⟩
set_option maxRecDepth 100000 in
set_option maxHeartbeats 8000000 in
theorem tz_core (x k idx : Nat) (w : World) (hx0 : ((x : Int) == 0) = false)
    (key : IntKind.u64.wrap (bits BinOp.and IntKind.u64 (x : Int) (IntKind.u64.wrap (-(x : Int))) * 285870213051353865) / 288230376151711744 = (idx : Int))
    (hi : idx < 64) (hk : k < 64) (hcell : w.cell? ⟨0, idx, none⟩ = some (.int .u8 k)) : Calls Tryd.prog 19 #[.int .u64 x] w fun e w' => e = .returned (.int .i64 k) ∧ w' = w := by
  go_enter Tryd.func19, Tryd.ntmps19
  go_wp2_with (simp only [key])
  go_ret
  exact ⟨rfl, rfl⟩
set_option maxRecDepth 100000 in
set_option maxHeartbeats 8000000 in
theorem tz_zero (w : World) : Calls Tryd.prog 19 #[.int .u64 0] w fun e w' => e = .returned (.int .i64 64) ∧ w' = w := by
  go_enter Tryd.func19, Tryd.ntmps19
  go_wp2
  go_ret
  exact ⟨rfl, rfl⟩
theorem low7 (Y : Nat) (h : Y < 18446744073709551616) : bits .and .i64 (wrap64 (Y : Int)) 127 = ((Y % 128 : Nat) : Int) := by
  have e : bits .and .i64 (wrap64 (Y : Int)) 127 = wrap64 (Y : Int) % 2 ^ 7 := Pl.and_mask .i64 7 (by decide) _
  rw [e, show ((2 : Int) ^ 7) = 128 from rfl]
  by_cases c : Y < 9223372036854775808
  · rw [Pl.w64 (n := (Y : Int)) (by omega) (by omega)]; rfl
  · have e2 : wrap64 (Y : Int) = (Y : Int) - 18446744073709551616 := by unfold wrap64; omega
    have e3 : (Y : Int) - 18446744073709551616 = ((Y % 128 : Nat) : Int) + 128 * (((Y / 128 : Nat) : Int) - 144115188075855872) := by omega
    rw [e2, e3, Int.add_mul_emod_self_left]
    exact Int.emod_eq_of_lt (Int.natCast_nonneg _) (by have := Nat.mod_lt Y (show 128 > 0 by decide); omega)
theorem ones (x : Nat) (hx : x < 18446744073709551616) (w : World) : Calls Tryd.prog 20 #[.int .u64 x] w fun e w' => e = .returned (.int .i64 ((popN 64 x : Nat) : Int)) ∧ w' = w := by
  have r1 : reps 4 1 32 = 6148914691236517205 := by decide
  have r2 : reps 16 3 16 = 3689348814741910323 := by decide
  have r3 : reps 256 15 8 = 1085102592571150095 := by decide
  have h1 := F1_lt x hx
  have h2 := F2_lt (F1 32 x)
  obtain ⟨p1, p2, p3, p4⟩ := pop_all x hx
  obtain ⟨Y1, hY1⟩ : ∃ Y, F1 32 x = Y := ⟨_, rfl⟩
  rw [hY1] at h1 h2 p1 p2 p3 p4
  obtain ⟨Y2, hY2⟩ : ∃ Y, F2 16 Y1 = Y := ⟨_, rfl⟩
  rw [hY2] at h2 p1 p2 p3 p4
  obtain ⟨Y3, hY3⟩ : ∃ Y, F3 8 Y2 = Y := ⟨_, rfl⟩
  rw [hY3] at p1 p2 p3 p4
  have e1 : IntKind.u64.wrap (bits .and .u64 ((x : Int) / 2) 6148914691236517205 + bits .and .u64 (x : Int) 6148914691236517205) = (Y1 : Int) := by
    have a := and_nat (x / 2) 6148914691236517205 (by omega) (by decide)
    have b := and_nat x 6148914691236517205 hx (by decide)
    rw [Int.natCast_ediv] at a
    have c : F1 32 x = (x / 2 &&& 6148914691236517205) + (x &&& 6148914691236517205) := by unfold F1; rw [r1]
    rw [hY1] at c
    have a' : bits .and .u64 ((x : Int) / 2) 6148914691236517205 = ((x / 2 &&& 6148914691236517205 : Nat) : Int) := a
    have b' : bits .and .u64 (x : Int) 6148914691236517205 = ((x &&& 6148914691236517205 : Nat) : Int) := b
    rw [a', b', IntKind.wrap_u64]; omega
  have e2 : IntKind.u64.wrap (bits .and .u64 ((Y1 : Int) / 4) 3689348814741910323 + bits .and .u64 (Y1 : Int) 3689348814741910323) = (Y2 : Int) := by
    have a := and_nat (Y1 / 4) 3689348814741910323 (by omega) (by decide)
    have b := and_nat Y1 3689348814741910323 h1 (by decide)
    rw [Int.natCast_ediv] at a
    have c : F2 16 Y1 = (Y1 / 4 &&& 3689348814741910323) + (Y1 &&& 3689348814741910323) := by unfold F2; rw [r2]
    rw [hY2] at c
    have a' : bits .and .u64 ((Y1 : Int) / 4) 3689348814741910323 = ((Y1 / 4 &&& 3689348814741910323 : Nat) : Int) := a
    have b' : bits .and .u64 (Y1 : Int) 3689348814741910323 = ((Y1 &&& 3689348814741910323 : Nat) : Int) := b
    rw [a', b', IntKind.wrap_u64]; omega
  have e3 : bits .and .u64 (IntKind.u64.wrap ((Y2 : Int) / 16 + (Y2 : Int))) 1085102592571150095 = (Y3 : Int) := by
    have hs : Y2 / 16 + Y2 < 18446744073709551616 := by
      have : (reps 16 3 16) + (reps 16 3 16) = 7378697629483820646 := by rw [r2]
      have c : F2 16 Y1 = (Y1 / 4 &&& 3689348814741910323) + (Y1 &&& 3689348814741910323) := by unfold F2; rw [r2]
      have d1 : (Y1 / 4 &&& 3689348814741910323) ≤ 3689348814741910323 := Nat.and_le_right
      have d2 : (Y1 &&& 3689348814741910323) ≤ 3689348814741910323 := Nat.and_le_right
      rw [hY2] at c
      omega
    have a := and_nat (Y2 / 16 + Y2) 1085102592571150095 hs (by decide)
    have c : F3 8 Y2 = ((Y2 / 16 + Y2) &&& 1085102592571150095) := by unfold F3; rw [r3]
    rw [hY3] at c
    have d : IntKind.u64.wrap ((Y2 : Int) / 16 + (Y2 : Int)) = ((Y2 / 16 + Y2 : Nat) : Int) := by rw [IntKind.wrap_u64]; omega
    have a' : bits .and .u64 ((Y2 / 16 + Y2 : Nat) : Int) 1085102592571150095 = (((Y2 / 16 + Y2) &&& 1085102592571150095 : Nat) : Int) := a
    rw [d, a', ← c]
  obtain ⟨Y4, hY4⟩ : ∃ Y, Y3 + Y3 / 256 = Y := ⟨_, rfl⟩
  rw [hY4] at p1 p2 p3 p4
  obtain ⟨Y5, hY5⟩ : ∃ Y, Y4 + Y4 / 65536 = Y := ⟨_, rfl⟩
  rw [hY5] at p2 p3 p4
  obtain ⟨Y6, hY6⟩ : ∃ Y, Y5 + Y5 / 4294967296 = Y := ⟨_, rfl⟩
  rw [hY6] at p3 p4
  have e4 : IntKind.u64.wrap ((Y3 : Int) + (Y3 : Int) / 256) = (Y4 : Int) := by rw [IntKind.wrap_u64]; omega
  have e5 : IntKind.u64.wrap ((Y4 : Int) + (Y4 : Int) / 65536) = (Y5 : Int) := by rw [IntKind.wrap_u64]; omega
  have e6 : IntKind.u64.wrap ((Y5 : Int) + (Y5 : Int) / 4294967296) = (Y6 : Int) := by rw [IntKind.wrap_u64]; omega
  have e7 : bits .and .i64 (wrap64 (Y6 : Int)) 127 = ((popN 64 x : Nat) : Int) := by rw [low7 Y6 (Nat.lt_of_lt_of_le p3 (Nat.le_refl _)), p4]
  exact ones_core x Y1 Y2 Y3 Y4 Y5 Y6 _ e1 e2 e3 e4 e5 e6 e7 w
abbrev Tab (w : World) : Prop := TabAt 0 Lib.deBruijn64tab w
theorem tz (x : Nat) (hx : x < 18446744073709551616) (w : World) (hT : Tab w) : Calls Tryd.prog 19 #[.int .u64 x] w fun e w' => e = .returned (.int .i64 (Lib.ctz 64 x)) ∧ w' = w := by
  by_cases hx0 : x = 0
  · subst hx0
    exact tz_zero w
  · obtain ⟨hlow, hk⟩ := Lib.lowest_bit 64 x hx0 hx
    obtain ⟨hi, htab⟩ := Lib.deBruijn64_at _ hk
    have hcell := hT _ hi
    rw [htab] at hcell
    exact tz_core x _ _ w (by simp; omega) (tz64_key x _ hx hx0 hlow) hi hk hcell
set_option maxRecDepth 100000 in
set_option maxHeartbeats 8000000 in
theorem cut_i (k x : Int) (w : World) : Calls Tryd.prog 13 #[.int .i64 k, .int .u64 x] w fun e w' => e = .returned (.int .u64 (cutM k x)) ∧ w' = w := by
  unfold cutM
  have e1 : bits .and .u64 x 4294967295 = x % 4294967296 := by rw [show (4294967295 : Int) = 2 ^ 32 - 1 by decide, Pl.and_mask .u64 32 (by decide) _]; rfl
  by_cases h : k = 32
  · subst h
    rw [if_pos rfl]
    generalize x % 4294967296 = y at *
    go_enter Tryd.func13, Tryd.ntmps13
    go_wp2
    go_ret
    exact ⟨rfl, rfl⟩
  · rw [if_neg h]
    clear e1
    have z : (k == 32) = false := beq_eq_false_iff_ne.2 h
    go_enter Tryd.func13, Tryd.ntmps13
    go_wp2
    go_ret
    exact ⟨rfl, rfl⟩
theorem truth_i (b : Bool) (w : World) : Calls Tryd.prog 21 #[.bool b] w fun e w' => e = .returned (.int .u64 (if b = true then 1 else 0)) ∧ w' = w := by
  cases b with
  | true =>
    go_enter Tryd.func21, Tryd.ntmps21
    go_wp2
    go_ret
    exact ⟨rfl, rfl⟩
  | false =>
    go_enter Tryd.func21, Tryd.ntmps21
    go_wp2
    go_ret
    exact ⟨rfl, rfl⟩
theorem good_i (k : Int) (w : World) : Calls Tryd.prog 11 #[.int .i64 k] w fun e w' => e = .returned (.bool (decide (k = 32 ∨ k = 64))) ∧ w' = w := by
  by_cases h : k = 32
  · subst h
    rw [decide_eq_true (.inl rfl)]
    go_enter Tryd.func11, Tryd.ntmps11
    go_wp2
    go_ret
    exact ⟨rfl, rfl⟩
  · have z : (k == 32) = false := beq_eq_false_iff_ne.2 h
    by_cases h2 : k = 64
    · subst h2
      rw [decide_eq_true (.inr rfl)]
      clear h z
      go_enter Tryd.func11, Tryd.ntmps11
      go_wp2
      go_ret
      exact ⟨rfl, rfl⟩
    · have z2 : (k == 64) = false := beq_eq_false_iff_ne.2 h2
      rw [decide_eq_false (fun c => c.elim h h2)]
      go_enter Tryd.func11, Tryd.ntmps11
      go_wp2
      go_ret
      exact ⟨rfl, rfl⟩
end Go.Proofs.YtfmmmfddpfddoaaDoor.OwnUnW
