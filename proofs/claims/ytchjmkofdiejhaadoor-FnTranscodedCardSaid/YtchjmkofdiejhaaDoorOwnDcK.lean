/- DecodePoints: the law, by walks of our own. -/
import Derived.Test.YtchjmkofdiejhaaDoorOwnDcI
import Derived.Test.YtchjmkofdiejhaaDoorPl2Codex1
namespace Go.Proofs.YtchjmkofdiejhaaDoor.OwnDcK
open Go Go.RowKit Go.Proofs.YtchjmkofdiejhaaDoorW.PrintWords Go.Proofs.YtchjmkofdiejhaaDoorW.PrintLast Go.Proofs.YtchjmkofdiejhaaDoorW.PrintMore Go.Proofs.YtchjmkofdiejhaaDoor.OwnIs Go.Proofs.YtchjmkofdiejhaaDoor.OwnDcP Go.Proofs.YtchjmkofdiejhaaDoor.OwnDcQ Go.Proofs.YtchjmkofdiejhaaDoor.OwnDcI
set_option linter.unusedVariables false
set_option linter.unusedSimpArgs false
theorem code_s (a : Int) (w : World) : Calls Tryd.prog 25 #[.int .i64 a] w fun e w' => e = .returned (.bool (decide (1 ≤ a ∧ a ≤ 3))) ∧ Below w.heap.size w w' := by
  refine (Pl2Code.spec_l2Code.calls a (decide (1 ≤ a ∧ a ≤ 3)) w ?_).mono fun e w' h => ⟨h.1, h.2.below⟩
  unfold Pl2Code.spec_l2Code.f Pl2Code.spec_l1In.f
  by_cases h : 1 ≤ a
  · rw [if_pos (show a ≥ 1 from h), Option.bind_some]; exact congrArg some (decide_eq_decide.2 (by omega))
  · rw [if_neg (show ¬ a ≥ 1 from h), Option.bind_some]; exact congrArg some (decide_eq_false (by omega)).symm
/-- What DecodePoints tells. -/
def deC (s : ByteArray) (code : Int) : List Int × Bool := if 1 ≤ code ∧ code ≤ 3 then decM code s else ([], false)
theorem deC_len (s : ByteArray) (code : Int) : (deC s code).1.length ≤ 300 := by
  unfold deC
  split
  · exact (decM_good code s).2
  · exact Nat.zero_le _
set_option maxRecDepth 100000 in
set_option maxHeartbeats 8000000 in
theorem dp_i (code : Int) (s : ByteArray) (hs : s.size ≤ 1048576) (w : World) (hT : Tabs w) : Calls Tryd.prog 8 #[.string s, .int .i64 code] w (EoPost w (deC s code)) := by
  unfold deC
  by_cases hc : 1 ≤ code ∧ code ≤ 3
  · rw [if_pos hc]; exact dec_i code hc s hs w hT
  · rw [if_neg hc]
    by_cases c1 : code < 1
    · have d1 : decide (code < 1) = true := decide_eq_true c1
      clear hT hc
      go_enter Tryd.func8, Tryd.ntmps8
      go_wp2
      go_ret2
      exact ⟨none, 0, rfl, Kd.R_nil _ _ _ _ _, Below.refl _ _⟩
    · have d1 : decide (code < 1) = false := decide_eq_false c1
      have d2 : decide (3 < code) = true := decide_eq_true (by omega)
      clear hT hc
      go_enter Tryd.func8, Tryd.ntmps8
      go_wp2
      go_ret2
      exact ⟨none, 0, rfl, Kd.R_nil _ _ _ _ _, Below.refl _ _⟩
set_option maxRecDepth 100000 in
set_option maxHeartbeats 8000000 in
theorem dp_s (code : Int) (s : ByteArray) (w : World) : Calls Tryd.prog 29 #[.string s, .int .i64 code] w (EoPost w (deC s code)) := by
  have cc := fun W => code_s code W
  unfold deC
  by_cases hc : 1 ≤ code ∧ code ≤ 3
  · rw [if_pos hc]
    rw [decide_eq_true hc] at cc
    obtain ⟨r1, q1, q2, _⟩ := dec2_s code hc s w
    have cd := fun W => dec2_s code hc s W
    clear q1 q2
    have hno := decM_no code s
    generalize decM code s = r at *
    obtain ⟨E, ok⟩ := r
    simp only at cd hno
    clear hc
    cases ok with
    | true =>
      go_enter Tryd.func29, Tryd.ntmps29
      go_wp2_with (go_at_call 25; (with_reducible refine (cc _).mono ?_); rintro e w1 ⟨rfl, hb1⟩)
      obtain ⟨r1, q1, q2, q3⟩ := cd w1
      obtain rfl := q2 trivial
      refine q3.mono ?_
      rintro e w2 ⟨A2, c2, rfl, R2, B2⟩
      have B := below_step hb1 B2
      have R3 := Kd.R_lower R2 hb1.size
      clear R2 q3 cd
      go_wp2_with fail
      go_ret2
      exact ⟨A2, c2, rfl, R3, B⟩
    | false =>
      go_enter Tryd.func29, Tryd.ntmps29
      go_wp2_with (go_at_call 25; (with_reducible refine (cc _).mono ?_); rintro e w1 ⟨rfl, hb1⟩)
      obtain ⟨r1, q1, q2, q3⟩ := cd w1
      obtain rfl := hno trivial
      clear q2
      refine q3.mono ?_
      rintro e w2 ⟨A2, c2, rfl, R2, B2⟩
      have B := below_step hb1 B2
      clear R2 q3 cd
      go_wp2_with fail
      go_ret2
      exact ⟨none, 0, rfl, Kd.R_nil _ _ _ _ _, B⟩
  · rw [if_neg hc]
    rw [decide_eq_false hc] at cc
    clear hc
    go_enter Tryd.func29, Tryd.ntmps29
    go_wp2_with (go_at_call 25; (with_reducible refine (cc _).mono ?_); rintro e w1 ⟨rfl, hb1⟩)
    go_ret2
    exact ⟨none, 0, rfl, Kd.R_nil _ _ _ _ _, hb1⟩
end Go.Proofs.YtchjmkofdiejhaaDoor.OwnDcK
