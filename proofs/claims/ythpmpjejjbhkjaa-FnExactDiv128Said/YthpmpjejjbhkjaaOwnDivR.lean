/- The statement's function on Div128; no condition beside a number's range. -/
import Derived.Test.YthpmpjejjbhkjaaOwnDivL
namespace Go.Proofs.Ythpmpjejjbhkjaa.OwnDivR
open Go Go.RowKit Go.Proofs.YthpmpjejjbhkjaaW.PrintWords Go.Proofs.YthpmpjejjbhkjaaW.PrintLast Go.Proofs.YthpmpjejjbhkjaaW.PrintMore
set_option linter.unusedVariables false
set_option linter.unusedSimpArgs false
theorem told (hi lo y : Nat) (hlo : lo < 18446744073709551616) (hy : y < 18446744073709551616) : ∃ (q r : Nat) (ok : Bool), (∀ w, Calls Try.prog 36 #[.int .u64 hi, .int .u64 lo, .int .u64 y] w fun e w' => e = .returned (.tuple #[.int .u64 (q : Int), .int .u64 (r : Int), .bool ok]) ∧ Below w.heap.size w w') ∧ (∀ w, Calls Try.prog 37 #[.int .u64 hi, .int .u64 lo, .int .u64 y] w fun e w' => e = .returned (.tuple #[.int .u64 (q : Int), .int .u64 (r : Int), .bool ok]) ∧ Below w.heap.size w w') := by
  by_cases h : hi < y
  · obtain ⟨k, hk⟩ := (OwnDivS.div_told hi lo y h hlo hy).rounds
    exact ⟨_, _, true, fun w => (PDiv128.spec_Div128.calls k _ _ _ _ _ _ w hk).mono fun e w' ⟨h1, h2⟩ => ⟨h1, h2.below⟩, fun w => OwnDivL.impl hi lo y h hlo hy w⟩
  · refine ⟨0, 0, false, fun w => (PDiv128.spec_Div128.calls 0 _ _ _ 0 0 false w ?_).mono fun e w' ⟨h1, h2⟩ => ⟨h1, h2.below⟩, fun w => OwnDivL.impl_no hi lo y (by omega) w⟩
    unfold PDiv128.spec_Div128.f
    rw [if_pos (by omega)]
set_option maxRecDepth 100000 in
set_option maxHeartbeats 8000000 in
theorem law_Div128 (hi lo y : Nat) (hlo : lo < 18446744073709551616) (hy : y < 18446744073709551616) (w : World) : Calls Try.prog 11 #[.int .u64 hi, .int .u64 lo, .int .u64 y] w fun en w' => en = .returned (.bool true) ∧ Below w.heap.size w w' := by
  obtain ⟨q, r, ok, ks, ki⟩ := told hi lo y hlo hy
  go_enter Try.func11, Try.ntmps11
  go_wp2_with (first | (go_at_call 36; (with_reducible refine (ks _).mono ?_); rintro e w2 ⟨rfl, B2⟩) | (go_at_call 37; (with_reducible refine (ki _).mono ?_); rintro e w3 ⟨rfl, B3⟩))
  go_ret
  exact ⟨rfl, below_step B2 B3⟩
end Go.Proofs.Ythpmpjejjbhkjaa.OwnDivR
