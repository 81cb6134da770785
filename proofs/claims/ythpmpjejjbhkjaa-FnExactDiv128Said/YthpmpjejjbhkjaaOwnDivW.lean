/- math/bits.Div64: a walk of our own; no condition beside a number's range and Go's own (no overflow). -/
import Derived.Test.YthpmpjejjbhkjaaPlainA
import Derived.Test.YthpmpjejjbhkjaaProg
import Derived.Test.YthpmpjejjbhkjaaShelf
import Derived.Test.YthpmpjejjbhkjaaOwnDivP
import Derived.Outline
import Derived.WalkKit
import Derived.Deep.DeepCutAuto
import Derived.Deep.CutBlock
import Derived.Deep.LoopGhost
import Derived.RegionTactic
import Derived.ChangeAlike
import Derived.Deep.QuietTactic
import Derived.BigQuiet
import Derived.BigRegion
namespace Go.Proofs.Ythpmpjejjbhkjaa.OwnDivW
open Go Go.RowKit Go.Proofs.YthpmpjejjbhkjaaW.PrintWords Go.Proofs.YthpmpjejjbhkjaaW.PrintLast Go.Proofs.YthpmpjejjbhkjaaW.PrintMore Go.Proofs.Ythpmpjejjbhkjaa.OwnDivP
set_option linter.unusedVariables false
set_option linter.unusedSimpArgs false
theorem wmod (X c P R : Nat) (h : X + c = P + R) (hR : R < 18446744073709551616) : IntKind.u64.wrap (IntKind.u64.wrap (IntKind.u64.wrap (X : Int) + (c : Int)) - IntKind.u64.wrap (P : Int)) = (R : Int) := by
  simp only [IntKind.wrap_u64]; omega
/-- What the shifts lay. -/
structure Laid (hi lo y s Y n1 n0 U V u1 u0 : Nat) : Prop where
  hs : s ≤ 63
  f8 : IntKind.u64.wrap ((y : Int) * 2 ^ s) = (Y : Int)
  f9 : (Y : Int) / 4294967296 = (n1 : Int)
  f10 : bits .and .u64 (Y : Int) 4294967295 = (n0 : Int)
  fs : IntKind.u64.wrap (64 - (s : Int)) = ((64 - s : Nat) : Int)
  f11 : bits .or .u64 (IntKind.u64.wrap ((hi : Int) * 2 ^ s)) ((lo : Int) / 2 ^ (64 - s)) = (U : Int)
  f12 : IntKind.u64.wrap ((lo : Int) * 2 ^ s) = (V : Int)
  f13 : (V : Int) / 4294967296 = (u1 : Int)
  f14 : bits .and .u64 (V : Int) 4294967295 = (u0 : Int)
  hY : Y = n1 * 4294967296 + n0
  hn0 : n0 < 4294967296
  hn1 : n1 < 4294967296
  hn2 : 4294967296 ≤ 2 * n1
  hU : U < Y
  hu1 : u1 < 4294967296
  hu0 : u0 < 4294967296
set_option maxRecDepth 100000 in
set_option maxHeartbeats 8000000 in
theorem big (hi lo y s Y n1 n0 U V u1 u0 : Nat) (hz : hi ≠ 0) (hhi : hi < y) (hlo : lo < 18446744073709551616) (hy : y < 18446744073709551616) (H : Laid hi lo y s Y n1 n0 U V u1 u0) (Q1 R1 Q0 R0 : Nat) (hQ1 : (U * 4294967296 + u1) / Y = Q1) (hR1 : U * 4294967296 + u1 - Q1 * Y = R1) (hQ0 : (R1 * 4294967296 + u0) / Y = Q0) (hR0 : R1 * 4294967296 + u0 - Q0 * Y = R0) (cl : ∀ w, Calls Try.prog 80 #[.int .u64 (y : Int)] w fun e w' => e = .returned (.int .i64 (s : Int)) ∧ w' = w) (w : World) : Calls Try.prog 64 #[.int .u64 hi, .int .u64 lo, .int .u64 y] w fun e w' => e = .returned (.tuple #[.int .u64 ((Q1 * 4294967296 + Q0 : Nat) : Int), .int .u64 ((R0 / 2 ^ s : Nat) : Int)]) ∧ Below w.heap.size w w' := by
  obtain ⟨hs, f8, f9, f10, fs, f11, f12, f13, f14, hY, hn0, hn1, hn2, hU, hu1, hu0⟩ := H
  have z1 : ((y : Int) == 0) = false := beq_eq_false_iff_ne.2 (by omega)
  have z2 : decide ((y : Int) ≤ (hi : Int)) = false := decide_eq_false (by omega)
  have z3 : ((hi : Int) == 0) = false := beq_eq_false_iff_ne.2 (by omega)
  have z4 : ((n1 : Int) == 0) = false := beq_eq_false_iff_ne.2 (by omega)
  have z5 : ¬ (n1 : Int) = 0 := by omega
  have ws : IntKind.u64.wrap (s : Int) = (s : Int) := by rw [IntKind.wrap_u64]; omega
  obtain ⟨q1, hq1⟩ : ∃ q1, U / n1 = q1 := ⟨_, rfl⟩
  have g15 : (U : Int) / (n1 : Int) = (q1 : Int) := by rw [← hq1, Int.natCast_ediv]
  have a0 : q1 * n1 + (U - q1 * n1) = U := by have := Nat.div_mul_le_self U n1; rw [hq1] at this; omega
  have a1 : Q1 ≤ q1 := by rw [← hQ1, ← hq1]; exact kn_first 4294967296 Y n1 n0 U u1 hY (by omega) hu1
  have a2 : q1 ≤ 4294967297 := by rw [← hq1]; exact kn_small 4294967296 Y n1 n0 U hY hn0 hn2 (by omega) hU
  have a3 : U - q1 * n1 < 4294967296 := by
    have h1 := Nat.div_add_mod U n1
    have h2 := Nat.mod_lt U (show n1 > 0 by omega)
    rw [hq1, Nat.mul_comm] at h1
    omega
  have g16 : IntKind.u64.wrap ((U : Int) - IntKind.u64.wrap ((q1 : Int) * (n1 : Int))) = ((U - q1 * n1 : Nat) : Int) := by
    rw [← Int.natCast_mul]
    generalize q1 * n1 = P at *
    simp only [IntKind.wrap_u64]; omega
  generalize U - q1 * n1 = r1 at *
  have hR1Y : R1 < Y ∧ U * 4294967296 + u1 = Q1 * Y + R1 := by
    have h1 := Nat.div_add_mod (U * 4294967296 + u1) Y
    have h2 := Nat.mod_lt (U * 4294967296 + u1) (show Y > 0 by omega)
    rw [hQ1, Nat.mul_comm] at h1
    omega
  have hY64 : Y < 18446744073709551616 := by omega
  have g17 : IntKind.u64.wrap (IntKind.u64.wrap (IntKind.u64.wrap ((U : Int) * 4294967296) + (u1 : Int)) - IntKind.u64.wrap ((Q1 : Int) * (Y : Int))) = (R1 : Int) := by
    have := wmod (U * 4294967296) u1 (Q1 * Y) R1 hR1Y.2 (by omega)
    rw [Int.natCast_mul, Int.natCast_mul] at this
    exact this
  obtain ⟨q2, hq2⟩ : ∃ q2, R1 / n1 = q2 := ⟨_, rfl⟩
  have g18 : (R1 : Int) / (n1 : Int) = (q2 : Int) := by rw [← hq2, Int.natCast_ediv]
  have b0 : q2 * n1 + (R1 - q2 * n1) = R1 := by have := Nat.div_mul_le_self R1 n1; rw [hq2] at this; omega
  have b1 : Q0 ≤ q2 := by rw [← hQ0, ← hq2]; exact kn_first 4294967296 Y n1 n0 R1 u0 hY (by omega) hu0
  have b2 : q2 ≤ 4294967297 := by rw [← hq2]; exact kn_small 4294967296 Y n1 n0 R1 hY hn0 hn2 (by omega) hR1Y.1
  have b3 : R1 - q2 * n1 < 4294967296 := by
    have h1 := Nat.div_add_mod R1 n1
    have h2 := Nat.mod_lt R1 (show n1 > 0 by omega)
    rw [hq2, Nat.mul_comm] at h1
    omega
  have g19 : IntKind.u64.wrap ((R1 : Int) - IntKind.u64.wrap ((q2 : Int) * (n1 : Int))) = ((R1 - q2 * n1 : Nat) : Int) := by
    rw [← Int.natCast_mul]
    generalize q2 * n1 = P at *
    simp only [IntKind.wrap_u64]; omega
  generalize R1 - q2 * n1 = r2 at *
  have hR0Y : R0 < Y ∧ R1 * 4294967296 + u0 = Q0 * Y + R0 := by
    have h1 := Nat.div_add_mod (R1 * 4294967296 + u0) Y
    have h2 := Nat.mod_lt (R1 * 4294967296 + u0) (show Y > 0 by omega)
    rw [hQ0, Nat.mul_comm] at h1
    omega
  have g20 : IntKind.u64.wrap (IntKind.u64.wrap (IntKind.u64.wrap ((R1 : Int) * 4294967296) + (u0 : Int)) - IntKind.u64.wrap ((Q0 : Int) * (Y : Int))) = (R0 : Int) := by
    have := wmod (R1 * 4294967296) u0 (Q0 * Y) R0 hR0Y.2 (by omega)
    rw [Int.natCast_mul, Int.natCast_mul] at this
    exact this
  have hQ1b : Q1 < 4294967296 := by rw [← hQ1]; exact kn_top 4294967296 Y U u1 hU hu1
  have hQ0b : Q0 < 4294967296 := by rw [← hQ0]; exact kn_top 4294967296 Y R1 u0 hR1Y.1 hu0
  have g21 : IntKind.u64.wrap (IntKind.u64.wrap ((Q1 : Int) * 4294967296) + (Q0 : Int)) = ((Q1 * 4294967296 + Q0 : Nat) : Int) := by simp only [IntKind.wrap_u64]; omega
  have g22 : (R0 : Int) / 2 ^ s = ((R0 / 2 ^ s : Nat) : Int) := by rw [Int.natCast_ediv, Int.natCast_pow]; rfl
  obtain ⟨X1, hX1⟩ : ∃ X, Q1 * 4294967296 + Q0 = X := ⟨_, rfl⟩
  obtain ⟨X2, hX2⟩ : ∃ X, R0 / 2 ^ s = X := ⟨_, rfl⟩
  rw [hX1] at g21 ⊢
  rw [hX2] at g22 ⊢
  clear hX1 hX2
  have wq1 : IntKind.u64.wrap (q1 : Int) = (q1 : Int) := by rw [IntKind.wrap_u64]; omega
  have wq2 : IntKind.u64.wrap (q2 : Int) = (q2 : Int) := by rw [IntKind.wrap_u64]; omega
  have mn : min s 64 = s := by omega
  have HA : Aside ((Y = n1 * 4294967296 + n0 ∧ n0 < 4294967296 ∧ n1 < 4294967296 ∧ 4294967296 ≤ 2 * n1) ∧ (U < Y ∧ u1 < 4294967296 ∧ (U * 4294967296 + u1) / Y = Q1 ∧ q1 * n1 + r1 = U ∧ Q1 ≤ q1 ∧ q1 ≤ 4294967297 ∧ r1 < 4294967296) ∧ (R1 < Y ∧ u0 < 4294967296 ∧ (R1 * 4294967296 + u0) / Y = Q0 ∧ q2 * n1 + r2 = R1 ∧ Q0 ≤ q2 ∧ q2 ≤ 4294967297 ∧ r2 < 4294967296)) := ⟨⟨hY, hn0, hn1, hn2⟩, ⟨hU, hu1, hQ1, a0, a1, a2, a3⟩, ⟨hR1Y.1, hu0, hQ0, b0, b1, b2, b3⟩⟩
  clear hR1Y hR0Y hQ1b hQ0b hR1 hR0 hq1 hq2 hY hn0 hn1 hn2 hU hu1 hQ1 a0 a1 a2 a3 hu0 hQ0 b0 b1 b2 b3 hY64 hs
  go_enter Try.func64, Try.ntmps64
  go_upto_block 0 with (first | (go_at_call 80; (with_reducible refine (cl _).mono ?_); rintro e w ⟨rfl, rfl⟩))
  go_cut [15, 16] from 67 to 85 (fun s1 s2 wx => s1 = .int .u64 (Q1 : Int) ∧ w = wx)
  case first =>
    go_wp2_with fail
    go_loopg [15, 16] q1 (fun k s1 s2 wx => w = wx ∧ ∃ r : Nat, s1 = .int .u64 (k : Int) ∧ s2 = .int .u64 (r : Int) ∧ k * n1 + r = U ∧ Q1 ≤ k ∧ k ≤ 4294967297 ∧ r < 4294967296)
    case atStart => exact ⟨rfl, r1, rfl, rfl, HA.out.2.1.2.2.2⟩
    case round =>
      obtain ⟨rfl, r, rfl, rfl, hq, hQ, hk, hr⟩ := hrel
      obtain ⟨hY, hn0, hn1, hn2⟩ := HA.out.1
      obtain ⟨hU, hu1, hQ1, _⟩ := HA.out.2.1
      have more : 4294967296 ≤ gk ∨ gk * n0 > 4294967296 * r + u1 → ∃ q' r' : Nat, gk = q' + 1 ∧ r' = r + n1 ∧ q' * n1 + r' = U ∧ Q1 ≤ q' := by
        intro h
        have h1 := kn_more 4294967296 Y n1 n0 U u1 gk r hY (by omega) hU hu1 hq h
        rw [hQ1] at h1
        obtain ⟨q', rfl⟩ : ∃ q', gk = q' + 1 := ⟨gk - 1, by omega⟩
        exact ⟨q', r + n1, rfl, rfl, by rw [Nat.succ_mul] at hq; omega, by omega⟩
      have stop : ¬ gk * n0 > 4294967296 * r + u1 → Q1 = gk := by
        intro h
        have h1 := kn_stop 4294967296 Y n1 n0 U u1 gk r hY (by omega) hq (by rw [hQ1]; exact hQ) h
        rw [hQ1] at h1; exact h1.symm
      have over : ∀ q' r' : Nat, q' * n1 + r' = U → Q1 ≤ q' → q' ≤ 4294967296 → 4294967296 ≤ r' → Q1 = q' := by
        intro q' r' h1 h2 h3 h4
        have h5 := kn_over 4294967296 Y n1 n0 U u1 q' r' hY (by omega) hn0 h1 (by rw [hQ1]; exact h2) h3 h4
        rw [hQ1] at h5; exact h5.symm
      have hP : gk < 4294967296 → gk * n0 < 18446744073709551616 := fun h => by
        have : gk * n0 ≤ 4294967295 * 4294967295 := Nat.mul_le_mul (by omega) (by omega)
        omega
      have wP : gk < 4294967296 → IntKind.u64.wrap ((gk : Int) * (n0 : Int)) = ((gk * n0 : Nat) : Int) := fun h => by
        have := hP h
        rw [← Int.natCast_mul]
        generalize gk * n0 = P at *
        rw [IntKind.wrap_u64]; omega
      obtain ⟨P, eP⟩ : ∃ X, gk * n0 = X := ⟨_, rfl⟩
      rw [eP] at more stop hP wP
      clear eP
      have wS : IntKind.u64.wrap (IntKind.u64.wrap (4294967296 * (r : Int)) + (u1 : Int)) = ((4294967296 * r + u1 : Nat) : Int) := by simp only [IntKind.wrap_u64]; omega
      obtain ⟨S, hS⟩ : ∃ X, 4294967296 * r + u1 = X := ⟨_, rfl⟩
      rw [hS] at more stop wS
      have WM : Aside ((4294967296 ≤ gk ∨ P > S → ∃ q' r' : Nat, gk = q' + 1 ∧ r' = r + n1 ∧ q' * n1 + r' = U ∧ Q1 ≤ q') ∧ (¬ P > S → Q1 = gk) ∧ (∀ q' r' : Nat, q' * n1 + r' = U → Q1 ≤ q' → q' ≤ 4294967296 → 4294967296 ≤ r' → Q1 = q')) := ⟨more, stop, over⟩
      clear more stop over hS hq
      have body : (4294967296 ≤ gk ∨ P > S) → ∃ q' r' : Nat, IntKind.u64.wrap ((gk : Int) - 1) = (q' : Int) ∧ IntKind.u64.wrap ((r : Int) + (n1 : Int)) = (r' : Int) ∧ q' < gk ∧ Aside (q' * n1 + r' = U ∧ Q1 ≤ q' ∧ (4294967296 ≤ r' → Q1 = q')) := by
        intro h
        obtain ⟨q', r', e1, e2, e3, e4⟩ := WM.out.1 h
        exact ⟨q', r', by rw [IntKind.wrap_u64]; omega, by rw [IntKind.wrap_u64]; omega, by omega, ⟨e3, e4, fun h5 => WM.out.2.2 q' r' e3 e4 (by omega) h5⟩⟩
      clear hY hn0 hn1 hn2 hU hu1 hQ1 hQ hr
      by_cases c1 : 4294967296 ≤ gk
      · have d1 : decide ((4294967296 : Int) ≤ (gk : Int)) = true := decide_eq_true (by omega)
        obtain ⟨q', r', e1, e2, e3, e4⟩ := body (.inl c1)
        clear body wP hP wS
        by_cases c3 : 4294967296 ≤ r'
        · have d3 : decide ((4294967296 : Int) ≤ (r' : Int)) = true := decide_eq_true (by omega)
          go_wp2_with fail
          go_meet
          case rel => exact ⟨by rw [e4.out.2.2 c3], rfl⟩
        · have d3 : decide ((4294967296 : Int) ≤ (r' : Int)) = false := decide_eq_false (by omega)
          go_wp2_with fail
          go_roundg q'
          case measure => exact e3
          case rel => exact ⟨rfl, r', rfl, rfl, e4.out.1, e4.out.2.1, by omega, by omega⟩
      · have d1 : decide ((4294967296 : Int) ≤ (gk : Int)) = false := decide_eq_false (by omega)
        have wP2 := wP (by omega)
        clear wP hP
        by_cases c2 : P > S
        · have d2 : decide ((S : Int) < (P : Int)) = true := decide_eq_true (by omega)
          obtain ⟨q', r', e1, e2, e3, e4⟩ := body (.inr c2)
          clear body
          by_cases c3 : 4294967296 ≤ r'
          · have d3 : decide ((4294967296 : Int) ≤ (r' : Int)) = true := decide_eq_true (by omega)
            go_wp2_with fail
            go_meet
            case rel => exact ⟨by rw [e4.out.2.2 c3], rfl⟩
          · have d3 : decide ((4294967296 : Int) ≤ (r' : Int)) = false := decide_eq_false (by omega)
            go_wp2_with fail
            go_roundg q'
            case measure => exact e3
            case rel => exact ⟨rfl, r', rfl, rfl, e4.out.1, e4.out.2.1, by omega, by omega⟩
        · have d2 : decide ((S : Int) < (P : Int)) = false := decide_eq_false (by omega)
          clear body
          go_wp2_with fail
          go_meet
          case rel => exact ⟨by rw [WM.out.2.1 c2], rfl⟩
  case rest =>
    obtain ⟨rfl, rfl⟩ := hcut
    go_upto_block 2 with fail
    go_cut [18, 16] from 102 to 120 (fun s1 s2 wx => s1 = .int .u64 (Q0 : Int) ∧ w = wx)
    case first =>
      go_wp2_with fail
      go_loopg [18, 16] q2 (fun k s1 s2 wx => w = wx ∧ ∃ r : Nat, s1 = .int .u64 (k : Int) ∧ s2 = .int .u64 (r : Int) ∧ k * n1 + r = R1 ∧ Q0 ≤ k ∧ k ≤ 4294967297 ∧ r < 4294967296)
      case atStart => exact ⟨rfl, r2, rfl, rfl, HA.out.2.2.2.2.2⟩
      case round =>
        obtain ⟨rfl, r, rfl, rfl, hq, hQ, hk, hr⟩ := hrel
        obtain ⟨hY, hn0, hn1, hn2⟩ := HA.out.1
        obtain ⟨hR1Y, hu0, hQ0, _⟩ := HA.out.2.2
        have more : 4294967296 ≤ gk ∨ gk * n0 > 4294967296 * r + u0 → ∃ q' r' : Nat, gk = q' + 1 ∧ r' = r + n1 ∧ q' * n1 + r' = R1 ∧ Q0 ≤ q' := by
          intro h
          have h1 := kn_more 4294967296 Y n1 n0 R1 u0 gk r hY (by omega) hR1Y hu0 hq h
          rw [hQ0] at h1
          obtain ⟨q', rfl⟩ : ∃ q', gk = q' + 1 := ⟨gk - 1, by omega⟩
          exact ⟨q', r + n1, rfl, rfl, by rw [Nat.succ_mul] at hq; omega, by omega⟩
        have stop : ¬ gk * n0 > 4294967296 * r + u0 → Q0 = gk := by
          intro h
          have h1 := kn_stop 4294967296 Y n1 n0 R1 u0 gk r hY (by omega) hq (by rw [hQ0]; exact hQ) h
          rw [hQ0] at h1; exact h1.symm
        have over : ∀ q' r' : Nat, q' * n1 + r' = R1 → Q0 ≤ q' → q' ≤ 4294967296 → 4294967296 ≤ r' → Q0 = q' := by
          intro q' r' h1 h2 h3 h4
          have h5 := kn_over 4294967296 Y n1 n0 R1 u0 q' r' hY (by omega) hn0 h1 (by rw [hQ0]; exact h2) h3 h4
          rw [hQ0] at h5; exact h5.symm
        have hP : gk < 4294967296 → gk * n0 < 18446744073709551616 := fun h => by
          have : gk * n0 ≤ 4294967295 * 4294967295 := Nat.mul_le_mul (by omega) (by omega)
          omega
        have wP : gk < 4294967296 → IntKind.u64.wrap ((gk : Int) * (n0 : Int)) = ((gk * n0 : Nat) : Int) := fun h => by
          have := hP h
          rw [← Int.natCast_mul]
          generalize gk * n0 = P at *
          rw [IntKind.wrap_u64]; omega
        obtain ⟨P, eP⟩ : ∃ X, gk * n0 = X := ⟨_, rfl⟩
        rw [eP] at more stop hP wP
        clear eP
        have wS : IntKind.u64.wrap (IntKind.u64.wrap (4294967296 * (r : Int)) + (u0 : Int)) = ((4294967296 * r + u0 : Nat) : Int) := by simp only [IntKind.wrap_u64]; omega
        obtain ⟨S, hS⟩ : ∃ X, 4294967296 * r + u0 = X := ⟨_, rfl⟩
        rw [hS] at more stop wS
        have WM : Aside ((4294967296 ≤ gk ∨ P > S → ∃ q' r' : Nat, gk = q' + 1 ∧ r' = r + n1 ∧ q' * n1 + r' = R1 ∧ Q0 ≤ q') ∧ (¬ P > S → Q0 = gk) ∧ (∀ q' r' : Nat, q' * n1 + r' = R1 → Q0 ≤ q' → q' ≤ 4294967296 → 4294967296 ≤ r' → Q0 = q')) := ⟨more, stop, over⟩
        clear more stop over hS hq
        have body : (4294967296 ≤ gk ∨ P > S) → ∃ q' r' : Nat, IntKind.u64.wrap ((gk : Int) - 1) = (q' : Int) ∧ IntKind.u64.wrap ((r : Int) + (n1 : Int)) = (r' : Int) ∧ q' < gk ∧ Aside (q' * n1 + r' = R1 ∧ Q0 ≤ q' ∧ (4294967296 ≤ r' → Q0 = q')) := by
          intro h
          obtain ⟨q', r', e1, e2, e3, e4⟩ := WM.out.1 h
          exact ⟨q', r', by rw [IntKind.wrap_u64]; omega, by rw [IntKind.wrap_u64]; omega, by omega, ⟨e3, e4, fun h5 => WM.out.2.2 q' r' e3 e4 (by omega) h5⟩⟩
        clear hY hn0 hn1 hn2 hR1Y hu0 hQ0 hQ hr
        by_cases c1 : 4294967296 ≤ gk
        · have d1 : decide ((4294967296 : Int) ≤ (gk : Int)) = true := decide_eq_true (by omega)
          obtain ⟨q', r', e1, e2, e3, e4⟩ := body (.inl c1)
          clear body wP hP wS
          by_cases c3 : 4294967296 ≤ r'
          · have d3 : decide ((4294967296 : Int) ≤ (r' : Int)) = true := decide_eq_true (by omega)
            go_wp2_with fail
            go_meet
            case rel => exact ⟨by rw [e4.out.2.2 c3], rfl⟩
          · have d3 : decide ((4294967296 : Int) ≤ (r' : Int)) = false := decide_eq_false (by omega)
            go_wp2_with fail
            go_roundg q'
            case measure => exact e3
            case rel => exact ⟨rfl, r', rfl, rfl, e4.out.1, e4.out.2.1, by omega, by omega⟩
        · have d1 : decide ((4294967296 : Int) ≤ (gk : Int)) = false := decide_eq_false (by omega)
          have wP2 := wP (by omega)
          clear wP hP
          by_cases c2 : P > S
          · have d2 : decide ((S : Int) < (P : Int)) = true := decide_eq_true (by omega)
            obtain ⟨q', r', e1, e2, e3, e4⟩ := body (.inr c2)
            clear body
            by_cases c3 : 4294967296 ≤ r'
            · have d3 : decide ((4294967296 : Int) ≤ (r' : Int)) = true := decide_eq_true (by omega)
              go_wp2_with fail
              go_meet
              case rel => exact ⟨by rw [e4.out.2.2 c3], rfl⟩
            · have d3 : decide ((4294967296 : Int) ≤ (r' : Int)) = false := decide_eq_false (by omega)
              go_wp2_with fail
              go_roundg q'
              case measure => exact e3
              case rel => exact ⟨rfl, r', rfl, rfl, e4.out.1, e4.out.2.1, by omega, by omega⟩
          · have d2 : decide ((S : Int) < (P : Int)) = false := decide_eq_false (by omega)
            clear body
            go_wp2_with fail
            go_meet
            case rel => exact ⟨by rw [WM.out.2.1 c2], rfl⟩
    case rest =>
      obtain ⟨rfl, rfl⟩ := hcut
      go_wp2
      go_ret2
      exact ⟨rfl, Below.refl _ _⟩
end Go.Proofs.Ythpmpjejjbhkjaa.OwnDivW
