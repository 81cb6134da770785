/- DecodePoints: the law, by walks of our own. -/
import Derived.Test.YtfncjcnlndoelaaDoorOwnDcI
import Derived.Test.YtfncjcnlndoelaaDoorOwnMk
import Derived.Test.YtfncjcnlndoelaaDoorPl2Codex1
namespace Go.Proofs.YtfncjcnlndoelaaDoor.OwnDcL
open Go Go.RowKit Go.Proofs.YtfncjcnlndoelaaDoorW.PrintWords Go.Proofs.YtfncjcnlndoelaaDoorW.PrintLast Go.Proofs.YtfncjcnlndoelaaDoorW.PrintMore Go.Proofs.YtfncjcnlndoelaaDoor.OwnIs Go.Proofs.YtfncjcnlndoelaaDoor.OwnDcP Go.Proofs.YtfncjcnlndoelaaDoor.OwnDcQ Go.Proofs.YtfncjcnlndoelaaDoor.OwnDcI Go.Proofs.YtfncjcnlndoelaaDoor.OwnMk
set_option linter.unusedVariables false
set_option linter.unusedSimpArgs false
theorem code_s (a : Int) (w : World) : Calls Tryd.prog 26 #[.int .i64 a] w fun e w' => e = .returned (.bool (decide (1 ≤ a ∧ a ≤ 3))) ∧ Below w.heap.size w w' := by
  refine (Pl2Code.spec_l2Code.calls a (decide (1 ≤ a ∧ a ≤ 3)) w ?_).mono fun e w' h => ⟨h.1, h.2.below⟩
  unfold Pl2Code.spec_l2Code.f Pl2Code.spec_l1In.f
  by_cases h : 1 ≤ a
  · rw [if_pos (show a ≥ 1 from h), Option.bind_some]; exact congrArg some (decide_eq_decide.2 (by omega))
  · rw [if_neg (show ¬ a ≥ 1 from h), Option.bind_some]; exact congrArg some (decide_eq_false (by omega)).symm
/-- What DecodePoints tells. -/
def deC (s : ByteArray) (code : Int) : List Int × Bool := if 1 ≤ code ∧ code ≤ 3 then decM code s else ([], false)
theorem deC_len (s : ByteArray) (code : Int) : (deC s code).1.length ≤ 300 := by
  unfold deC
  split
  · exact (decM_good code s).2
  · exact Nat.zero_le _
set_option maxRecDepth 100000 in
set_option maxHeartbeats 8000000 in
theorem dp_i (code : Int) (s : ByteArray) (hs : s.size ≤ 1048576) (w : World) (hT : Tabs w) : Calls Tryd.prog 9 #[.string s, .int .i64 code] w (EoPost w (deC s code)) := by
  unfold deC
  by_cases hc : 1 ≤ code ∧ code ≤ 3
  · rw [if_pos hc]; exact dec_i code hc s hs w hT
  · rw [if_neg hc]
    by_cases c1 : code < 1
    · have d1 : decide (code < 1) = true := decide_eq_true c1
      clear hT hc
      go_enter Tryd.func9, Tryd.ntmps9
      go_wp2
      go_ret2
      exact ⟨none, 0, rfl, Kd.R_nil _ _ _ _ _, Below.refl _ _⟩
    · have d1 : decide (code < 1) = false := decide_eq_false c1
      have d2 : decide (3 < code) = true := decide_eq_true (by omega)
      clear hT hc
      go_enter Tryd.func9, Tryd.ntmps9
      go_wp2
      go_ret2
      exact ⟨none, 0, rfl, Kd.R_nil _ _ _ _ _, Below.refl _ _⟩
set_option maxRecDepth 100000 in
set_option maxHeartbeats 8000000 in
theorem dp_s (code : Int) (s : ByteArray) (w : World) : Calls Tryd.prog 8 #[.string s, .int .i64 code] w (EoPost w (deC s code)) := by
  have cc := fun W => code_s code W
  unfold deC
  by_cases hc : 1 ≤ code ∧ code ≤ 3
  · rw [if_pos hc]
    rw [decide_eq_true hc] at cc
    obtain ⟨r1, q1, q2, _⟩ := dec2_s code hc s w
    have cd := fun W => dec2_s code hc s W
    clear q1 q2
    have hno := decM_no code s
    generalize decM code s = r at *
    obtain ⟨E, ok⟩ := r
    simp only at cd hno
    clear hc
    cases ok with
    | true =>
      go_enter Tryd.func8, Tryd.ntmps8
      go_wp2_with (go_at_call 26; (with_reducible refine (cc _).mono ?_); rintro e w1 ⟨rfl, hb1⟩)
      obtain ⟨r1, q1, q2, q3⟩ := cd w1
      obtain rfl := q2 trivial
      refine q3.mono ?_
      rintro e w2 ⟨A2, c2, rfl, R2, B2⟩
      have B := below_step hb1 B2
      have R3 := Kd.R_lower R2 hb1.size
      clear R2 q3 cd
      go_wp2_with fail
      go_ret2
      exact ⟨A2, c2, rfl, R3, B⟩
    | false =>
      go_enter Tryd.func8, Tryd.ntmps8
      go_wp2_with (go_at_call 26; (with_reducible refine (cc _).mono ?_); rintro e w1 ⟨rfl, hb1⟩)
      obtain ⟨r1, q1, q2, q3⟩ := cd w1
      obtain rfl := hno trivial
      clear q2
      refine q3.mono ?_
      rintro e w2 ⟨A2, c2, rfl, R2, B2⟩
      have B := below_step hb1 B2
      clear R2 q3 cd
      go_wp2_with fail
      go_ret2
      exact ⟨none, 0, rfl, Kd.R_nil _ _ _ _ _, B⟩
  · rw [if_neg hc]
    rw [decide_eq_false hc] at cc
    clear hc
    go_enter Tryd.func8, Tryd.ntmps8
    go_wp2_with (go_at_call 26; (with_reducible refine (cc _).mono ?_); rintro e w1 ⟨rfl, hb1⟩)
    go_ret2
    exact ⟨none, 0, rfl, Kd.R_nil _ _ _ _ _, hb1⟩
set_option maxRecDepth 100000 in
set_option maxHeartbeats 8000000 in
theorem law_DecodePoints (s : ByteArray) (code : Int) (hs0 : s.size ≤ 9223372036854775807) (w : World) (hT : Tabs w) : Calls Tryd.prog 3 #[.string s, .int .i64 code] w fun e w' => e = .returned (.bool true) ∧ Below w.heap.size w w' := by
  have HT := Aside0.mk hT
  clear hT
  by_cases z : 1048576 < s.size
  · have d1 : decide ((1048576 : Int) < (s.size : Int)) = true := decide_eq_true (by omega)
    have d2 : decide (1048576 < s.size) = true := decide_eq_true z
    go_enter Tryd.func3, Tryd.ntmps3
    go_wp2
    go_ret
    exact ⟨rfl, Below.refl _ _⟩
  · have hs : s.size ≤ 1048576 := by omega
    have d1 : decide ((1048576 : Int) < (s.size : Int)) = false := decide_eq_false (by omega)
    have d2 : decide (1048576 < s.size) = false := decide_eq_false z
    have HEl : (deC s code).1.length ≤ 1000 := Nat.le_trans (deC_len s code) (by decide)
    have ks := fun W => dp_s code s W
    have ki := fun W (B : Below w.heap.size w W) => dp_i code s hs W (Utf8Tabs_below HT.out B)
    generalize deC s code = r at *
    obtain ⟨E, ok⟩ := r
    simp only at HEl
    have hkq : decide ((E.length : Int) + 1 < 0) = false := decide_eq_false (by omega)
    clear z hs hs0
    go_enter Tryd.func3, Tryd.ntmps3
    go_wp2_with fail
    refine (ks _).mono ?_
    rintro e w2 ⟨A2, c2, rfl, R2, B2⟩
    have B : Below w.heap.size w w2 := B2
    have L2 := Aside0.mk (Kd.R_lt R2)
    have HR2 := Aside0.mk R2
    have hs2 : Aside0 (w.heap.size ≤ w2.heap.size) := ⟨B.size⟩
    clear B2 R2
    go_wp2_with fail
    refine (ki _ B).mono ?_
    rintro e w4 ⟨A4, c4, rfl, R4, B4⟩
    have L4 := Aside0.mk (Kd.R_base R4)
    have E2 := Aside0.mk (Kd.R_below HR2.out B4)
    have E4 := Aside0.mk R4
    replace B := below_step B B4
    clear B4 HR2 R4
    go_wp2_with fail
    refine (eqInts A4 c4 A2 c2 E E.length rfl _ (Kd.R_reads' E4.out).2.2 (Kd.R_reads' E4.out).2.1 (Kd.R_reads' E2.out).2.2 (Kd.R_reads' E2.out).2.1 HEl).mono ?_
    rintro e w9 ⟨rfl, B9⟩
    have E2' := Aside0.mk (Kd.R_below E2.out B9)
    have E4' := Aside0.mk (Kd.R_below E4.out B9)
    replace B := below_step B B9
    clear B9 E2 E4
    go_wp2_with fail
    refine (mark_ints _ _ E _ E4'.out HEl).mono ?_
    rintro e w10 ⟨rfl, M10, ⟨o10, s10⟩, B10⟩
    have E2 := Aside0.mk (R_same E2'.out (fun k hk => o10 k (fun e => by have h1 := L2.out k hk; have h2 := L4.out k e; omega)))
    have M := Aside0.mk M10
    replace B := Below.trans B (B10.mono hs2.out)
    clear B10 o10 s10 E2' E4' M10
    go_wp2_with fail
    have hml := marks_len E.length
    have Q := fun {W : World} (h : dI.R 3 W w2.heap.size (fun _ => True) (.slice A4 E.length c4) (marks E.length)) => held_ints A4 c4 E.length W (by have := (Kd.R_reads' h).2.2; rwa [marks_len] at this) (by have := (Kd.R_reads' h).2.1; exact this) HEl
    refine (Q M.out).mono ?_
    rintro e w11 ⟨rfl, B11⟩
    have E2' := Aside0.mk (Kd.R_below E2.out B11)
    have M' := Aside0.mk (Kd.R_below M.out B11)
    replace B := below_step B B11
    clear B11 E2 M
    go_wp2_with fail
    refine (ki _ B).mono ?_
    rintro e w13 ⟨A13, c13, rfl, R13, B13⟩
    have E2 := Aside0.mk (Kd.R_below E2'.out B13)
    have M := Aside0.mk (Kd.R_below M'.out B13)
    have E13 := Aside0.mk R13
    replace B := below_step B B13
    clear B13 E2' M' R13
    go_wp2_with fail
    refine (eqInts A13 c13 A2 c2 E E.length rfl _ (Kd.R_reads' E13.out).2.2 (Kd.R_reads' E13.out).2.1 (Kd.R_reads' E2.out).2.2 (Kd.R_reads' E2.out).2.1 HEl).mono ?_
    rintro e w14 ⟨rfl, B14⟩
    have M' := Aside0.mk (Kd.R_below M.out B14)
    replace B := below_step B B14
    clear B14 E2 M E13
    go_wp2_with fail
    refine (Q M'.out).mono ?_
    rintro e w15 ⟨rfl, B15⟩
    replace B := below_step B B15
    go_wp2
    go_ret
    exact ⟨rfl, B⟩
end Go.Proofs.YtfncjcnlndoelaaDoor.OwnDcL
