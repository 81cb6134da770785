/- CompactPoints: the law, by walks of our own. -/
import Derived.Test.YtfncjcnlndoelaaDoorOwnDcL
import Derived.Test.YtfncjcnlndoelaaDoorOwnTextE
namespace Go.Proofs.YtfncjcnlndoelaaDoor.OwnCpL
open Go Go.RowKit Go.Proofs.YtfncjcnlndoelaaDoorW.PrintWords Go.Proofs.YtfncjcnlndoelaaDoorW.PrintLast Go.Proofs.YtfncjcnlndoelaaDoorW.PrintMore Go.Proofs.YtfncjcnlndoelaaDoor.OwnIs Go.Proofs.YtfncjcnlndoelaaDoor.OwnDcP Go.Proofs.YtfncjcnlndoelaaDoor.OwnDcQ Go.Proofs.YtfncjcnlndoelaaDoor.OwnDcI Go.Proofs.YtfncjcnlndoelaaDoor.OwnMk Go.Proofs.YtfncjcnlndoelaaDoor.OwnDcL
set_option linter.unusedVariables false
set_option linter.unusedSimpArgs false
theorem pts_of {l : List Int} (h : l.all goodB = true ∧ l.length ≤ 300) : OwnText.goodPts l = true := by
  unfold OwnText.goodPts
  have e : OwnText.goodB = goodB := by
    funext p
    unfold OwnText.goodB goodB
    exact decide_eq_decide.2 (by omega)
  rw [e, h.1, decide_eq_true h.2]
  rfl
theorem enc3 (l : List Int) : (OwnTextE.encE l 3).2 = OwnText.narrowB l := by
  unfold OwnTextE.encE
  cases h : OwnText.narrowB l with
  | true => rw [if_neg (by simp)]
  | false => rw [if_pos ⟨rfl, rfl⟩]
/-- What CompactPoints tells. -/
def cpM (s : ByteArray) (wide : Bool) : List Int × Bool := if (decM (if wide = true then 2 else 3) s).2 = false ∨ (wide = true ∧ OwnText.narrowB (decM (if wide = true then 2 else 3) s).1 = true) then ([], false) else ((decM (if wide = true then 2 else 3) s).1, true)
theorem cpM_len (s : ByteArray) (wide : Bool) : (cpM s wide).1.length ≤ 300 := by
  have h := (decM_good (if wide = true then 2 else 3) s).2
  unfold cpM
  generalize decM (if wide = true then 2 else 3) s = r at *
  split
  · exact Nat.zero_le _
  · exact h
set_option maxRecDepth 100000 in
set_option maxHeartbeats 8000000 in
theorem cp_i (wide : Bool) (s : ByteArray) (hs : s.size ≤ 1048576) (w : World) (hT : Tabs w) : Calls Tryd.prog 14 #[.string s, .bool wide] w (EoPost w (cpM s wide)) := by
  unfold cpM
  cases wide with
  | true =>
    simp only [if_true, Bool.false_eq_true, if_false]
    have hno := decM_no 2 s
    have hgd := pts_of (decM_good 2 s)
    have hln := (decM_good 2 s).2
    have cd := fun W (B : Below w.heap.size w W) => dec_i 2 (by decide) s hs W (Utf8Tabs_below hT B)
    generalize decM 2 s = r at *
    obtain ⟨E, ok⟩ := r
    simp only at cd hno hgd hln
    cases ok with
    | false =>
      obtain rfl := hno (by first | rfl | trivial)
      rw [if_pos (.inl rfl)]
      clear hno
      go_enter Tryd.func14, Tryd.ntmps14
      go_wp2_with fail
      refine (cd _ (Below.refl _ _)).mono ?_
      rintro e w2 ⟨A2, c2, rfl, R2, B2⟩
      have B := B2
      clear cd hgd
      go_wp2_with fail
      go_ret2
      exact ⟨none, 0, rfl, Kd.R_nil _ _ _ _ _, B⟩
    | true =>
      cases hnb : OwnText.narrowB E with
      | true =>
        rw [if_pos (.inr ⟨(by first | rfl | trivial), (by first | rfl | trivial)⟩)]
        go_enter Tryd.func14, Tryd.ntmps14
        go_wp2_with fail
        refine (cd _ (Below.refl _ _)).mono ?_
        rintro e w2 ⟨A2, c2, rfl, R2, B2⟩
        have B := Aside0.mk B2
        have HR2 := Aside0.mk R2
        have hrd := Kd.R_reads' R2
        have HC := Aside0.mk hrd.2.2
        have HL := Aside0.mk hrd.2.1
        clear cd hno R2 B2 hrd
        have cn := fun W (h : Kd.C (Kd.int .i64) W A2 E.length E) => OwnText.narrow_i A2 c2 E W h HL.out (by omega)
        rw [hnb] at cn
        clear hnb
        go_wp2_with (go_at_call 30; (with_reducible refine (cn _ HC.out).mono ?_); rintro e w3 ⟨rfl, n3, rfl⟩)
        go_ret2
        exact ⟨none, 0, rfl, Kd.R_nil _ _ _ _ _, pw_below_drewN B.out _⟩
      | false =>
        rw [if_neg (by simp)]
        go_enter Tryd.func14, Tryd.ntmps14
        go_wp2_with fail
        refine (cd _ (Below.refl _ _)).mono ?_
        rintro e w2 ⟨A2, c2, rfl, R2, B2⟩
        have B := Aside0.mk B2
        have HR2 := Aside0.mk R2
        have hrd := Kd.R_reads' R2
        have HC := Aside0.mk hrd.2.2
        have HL := Aside0.mk hrd.2.1
        clear cd hno R2 B2 hrd
        have cn := fun W (h : Kd.C (Kd.int .i64) W A2 E.length E) => OwnText.narrow_i A2 c2 E W h HL.out (by omega)
        rw [hnb] at cn
        clear hnb
        go_wp2_with (go_at_call 30; (with_reducible refine (cn _ HC.out).mono ?_); rintro e w3 ⟨rfl, n3, rfl⟩)
        go_ret2
        exact ⟨A2, c2, rfl, Kd.R_below HR2.out (pw_below_drewN (Below.refl _ _) _), pw_below_drewN B.out _⟩
  | false =>
    simp only [if_true, Bool.false_eq_true, if_false]
    have hno := decM_no 3 s
    have hgd := pts_of (decM_good 3 s)
    have hln := (decM_good 3 s).2
    have cd := fun W (B : Below w.heap.size w W) => dec_i 3 (by decide) s hs W (Utf8Tabs_below hT B)
    generalize decM 3 s = r at *
    obtain ⟨E, ok⟩ := r
    simp only at cd hno hgd hln
    cases ok with
    | false =>
      obtain rfl := hno (by first | rfl | trivial)
      rw [if_pos (.inl rfl)]
      clear hno
      go_enter Tryd.func14, Tryd.ntmps14
      go_wp2_with fail
      refine (cd _ (Below.refl _ _)).mono ?_
      rintro e w2 ⟨A2, c2, rfl, R2, B2⟩
      have B := B2
      clear cd hgd
      go_wp2_with fail
      go_ret2
      exact ⟨none, 0, rfl, Kd.R_nil _ _ _ _ _, B⟩
    | true =>
      rw [if_neg (by simp)]
      go_enter Tryd.func14, Tryd.ntmps14
      go_wp2_with fail
      refine (cd _ (Below.refl _ _)).mono ?_
      rintro e w2 ⟨A2, c2, rfl, R2, B2⟩
      have B := Aside0.mk B2
      have HR2 := Aside0.mk R2
      have hrd := Kd.R_reads' R2
      have HC := Aside0.mk hrd.2.2
      have HL := Aside0.mk hrd.2.1
      clear cd hno R2 B2 hrd
      go_wp2_with fail
      go_ret2
      exact ⟨A2, c2, rfl, HR2.out, B.out⟩
set_option maxRecDepth 100000 in
set_option maxHeartbeats 8000000 in
theorem cp_s (wide : Bool) (s : ByteArray) (w : World) : Calls Tryd.prog 13 #[.string s, .bool wide] w (EoPost w (cpM s wide)) := by
  unfold cpM
  cases wide with
  | true =>
    simp only [if_true, Bool.false_eq_true, if_false]
    have hno := decM_no 2 s
    have hgd := pts_of (decM_good 2 s)
    have hln := (decM_good 2 s).2
    have cd := fun W => dec2_s 2 (by decide) s W
    generalize decM 2 s = r at *
    obtain ⟨E, ok⟩ := r
    simp only at cd hno hgd hln
    cases ok with
    | false =>
      obtain rfl := hno (by first | rfl | trivial)
      rw [if_pos (.inl rfl)]
      clear hno
      go_enter Tryd.func13, Tryd.ntmps13
      go_wp2_with fail
      obtain ⟨r1, q1, q2, q3⟩ := cd w
      clear q2
      refine q3.mono ?_
      rintro e w2 ⟨A2, c2, rfl, R2, B2⟩
      have B := B2
      clear cd hgd q3
      go_wp2_with fail
      go_ret2
      exact ⟨none, 0, rfl, Kd.R_nil _ _ _ _ _, B⟩
    | true =>
      cases hnb : OwnText.narrowB E with
      | true =>
        rw [if_pos (.inr ⟨(by first | rfl | trivial), (by first | rfl | trivial)⟩)]
        go_enter Tryd.func13, Tryd.ntmps13
        go_wp2_with fail
        obtain ⟨r1, q1, q2, q3⟩ := cd w
        obtain rfl : E = r1 := (q2 (by first | rfl | trivial)).symm
        refine q3.mono ?_
        rintro e w2 ⟨A2, c2, rfl, R2, B2⟩
        have B := Aside0.mk B2
        have HR2 := Aside0.mk R2
        have hrd := Kd.R_reads' R2
        have HC := Aside0.mk hrd.2.2
        have HL := Aside0.mk hrd.2.1
        clear cd hno R2 B2 hrd q3
        have cn := fun W (h : Kd.C (Kd.int .i64) W A2 E.length E) => OwnTextE.enc2_s A2 c2 E 3 W h HL.out hgd (by decide)
        rw [enc3, hnb] at cn
        generalize (OwnTextE.encE E 3).1 = X at *
        clear hnb
        go_wp2_with fail
        refine (cn _ HC.out).mono ?_
        rintro e w3 ⟨rfl, hb3⟩
        have HR3 := Aside0.mk (Kd.R_below HR2.out hb3)
        have B3 := Aside0.mk (below_step B.out hb3)
        clear hb3
        go_wp2_with fail
        go_ret2
        exact ⟨none, 0, rfl, Kd.R_nil _ _ _ _ _, B3.out⟩
      | false =>
        rw [if_neg (by simp)]
        go_enter Tryd.func13, Tryd.ntmps13
        go_wp2_with fail
        obtain ⟨r1, q1, q2, q3⟩ := cd w
        obtain rfl : E = r1 := (q2 (by first | rfl | trivial)).symm
        refine q3.mono ?_
        rintro e w2 ⟨A2, c2, rfl, R2, B2⟩
        have B := Aside0.mk B2
        have HR2 := Aside0.mk R2
        have hrd := Kd.R_reads' R2
        have HC := Aside0.mk hrd.2.2
        have HL := Aside0.mk hrd.2.1
        clear cd hno R2 B2 hrd q3
        have cn := fun W (h : Kd.C (Kd.int .i64) W A2 E.length E) => OwnTextE.enc2_s A2 c2 E 3 W h HL.out hgd (by decide)
        rw [enc3, hnb] at cn
        generalize (OwnTextE.encE E 3).1 = X at *
        clear hnb
        go_wp2_with fail
        refine (cn _ HC.out).mono ?_
        rintro e w3 ⟨rfl, hb3⟩
        have HR3 := Aside0.mk (Kd.R_below HR2.out hb3)
        have B3 := Aside0.mk (below_step B.out hb3)
        clear hb3
        go_wp2_with fail
        go_ret2
        exact ⟨A2, c2, rfl, HR3.out, B3.out⟩
  | false =>
    simp only [if_true, Bool.false_eq_true, if_false]
    have hno := decM_no 3 s
    have hgd := pts_of (decM_good 3 s)
    have hln := (decM_good 3 s).2
    have cd := fun W => dec2_s 3 (by decide) s W
    generalize decM 3 s = r at *
    obtain ⟨E, ok⟩ := r
    simp only at cd hno hgd hln
    cases ok with
    | false =>
      obtain rfl := hno (by first | rfl | trivial)
      rw [if_pos (.inl rfl)]
      clear hno
      go_enter Tryd.func13, Tryd.ntmps13
      go_wp2_with fail
      obtain ⟨r1, q1, q2, q3⟩ := cd w
      clear q2
      refine q3.mono ?_
      rintro e w2 ⟨A2, c2, rfl, R2, B2⟩
      have B := B2
      clear cd hgd q3
      go_wp2_with fail
      go_ret2
      exact ⟨none, 0, rfl, Kd.R_nil _ _ _ _ _, B⟩
    | true =>
      cases hnb : OwnText.narrowB E with
      | true =>
        rw [if_neg (by simp)]
        go_enter Tryd.func13, Tryd.ntmps13
        go_wp2_with fail
        obtain ⟨r1, q1, q2, q3⟩ := cd w
        obtain rfl : E = r1 := (q2 (by first | rfl | trivial)).symm
        refine q3.mono ?_
        rintro e w2 ⟨A2, c2, rfl, R2, B2⟩
        have B := Aside0.mk B2
        have HR2 := Aside0.mk R2
        have hrd := Kd.R_reads' R2
        have HC := Aside0.mk hrd.2.2
        have HL := Aside0.mk hrd.2.1
        clear cd hno R2 B2 hrd q3
        have cn := fun W (h : Kd.C (Kd.int .i64) W A2 E.length E) => OwnTextE.enc2_s A2 c2 E 3 W h HL.out hgd (by decide)
        rw [enc3, hnb] at cn
        generalize (OwnTextE.encE E 3).1 = X at *
        clear hnb
        go_wp2_with fail
        refine (cn _ HC.out).mono ?_
        rintro e w3 ⟨rfl, hb3⟩
        have HR3 := Aside0.mk (Kd.R_below HR2.out hb3)
        have B3 := Aside0.mk (below_step B.out hb3)
        clear hb3
        go_wp2_with fail
        go_ret2
        exact ⟨A2, c2, rfl, HR3.out, B3.out⟩
      | false =>
        rw [if_neg (by simp)]
        go_enter Tryd.func13, Tryd.ntmps13
        go_wp2_with fail
        obtain ⟨r1, q1, q2, q3⟩ := cd w
        obtain rfl : E = r1 := (q2 (by first | rfl | trivial)).symm
        refine q3.mono ?_
        rintro e w2 ⟨A2, c2, rfl, R2, B2⟩
        have B := Aside0.mk B2
        have HR2 := Aside0.mk R2
        have hrd := Kd.R_reads' R2
        have HC := Aside0.mk hrd.2.2
        have HL := Aside0.mk hrd.2.1
        clear cd hno R2 B2 hrd q3
        have cn := fun W (h : Kd.C (Kd.int .i64) W A2 E.length E) => OwnTextE.enc2_s A2 c2 E 3 W h HL.out hgd (by decide)
        rw [enc3, hnb] at cn
        generalize (OwnTextE.encE E 3).1 = X at *
        clear hnb
        go_wp2_with fail
        refine (cn _ HC.out).mono ?_
        rintro e w3 ⟨rfl, hb3⟩
        have HR3 := Aside0.mk (Kd.R_below HR2.out hb3)
        have B3 := Aside0.mk (below_step B.out hb3)
        clear hb3
        go_wp2_with fail
        go_ret2
        exact ⟨A2, c2, rfl, HR3.out, B3.out⟩
set_option maxRecDepth 100000 in
set_option maxHeartbeats 8000000 in
theorem law_CompactPoints (s : ByteArray) (wide : Bool) (hs0 : s.size ≤ 9223372036854775807) (w : World) (hT : Tabs w) : Calls Tryd.prog 4 #[.string s, .bool wide] w fun e w' => e = .returned (.bool true) ∧ Below w.heap.size w w' := by
  have HT := Aside0.mk hT
  clear hT
  by_cases z : 1048576 < s.size
  · have d1 : decide ((1048576 : Int) < (s.size : Int)) = true := decide_eq_true (by omega)
    have d2 : decide (1048576 < s.size) = true := decide_eq_true z
    go_enter Tryd.func4, Tryd.ntmps4
    go_wp2
    go_ret
    exact ⟨rfl, Below.refl _ _⟩
  · have hs : s.size ≤ 1048576 := by omega
    have d1 : decide ((1048576 : Int) < (s.size : Int)) = false := decide_eq_false (by omega)
    have d2 : decide (1048576 < s.size) = false := decide_eq_false z
    have HEl : (cpM s wide).1.length ≤ 1000 := Nat.le_trans (cpM_len s wide) (by decide)
    have ks := fun W => cp_s wide s W
    have ki := fun W (B : Below w.heap.size w W) => cp_i wide s hs W (Utf8Tabs_below HT.out B)
    generalize cpM s wide = r at *
    obtain ⟨E, ok⟩ := r
    simp only at HEl
    have hkq : decide ((E.length : Int) + 1 < 0) = false := decide_eq_false (by omega)
    clear z hs hs0
    go_enter Tryd.func4, Tryd.ntmps4
    go_wp2_with fail
    refine (ks _).mono ?_
    rintro e w2 ⟨A2, c2, rfl, R2, B2⟩
    have B : Below w.heap.size w w2 := B2
    have L2 := Aside0.mk (Kd.R_lt R2)
    have HR2 := Aside0.mk R2
    have hs2 : Aside0 (w.heap.size ≤ w2.heap.size) := ⟨B.size⟩
    clear B2 R2
    go_wp2_with fail
    refine (ki _ B).mono ?_
    rintro e w4 ⟨A4, c4, rfl, R4, B4⟩
    have L4 := Aside0.mk (Kd.R_base R4)
    have E2 := Aside0.mk (Kd.R_below HR2.out B4)
    have E4 := Aside0.mk R4
    replace B := below_step B B4
    clear B4 HR2 R4
    go_wp2_with fail
    refine (eqInts A4 c4 A2 c2 E E.length rfl _ (Kd.R_reads' E4.out).2.2 (Kd.R_reads' E4.out).2.1 (Kd.R_reads' E2.out).2.2 (Kd.R_reads' E2.out).2.1 HEl).mono ?_
    rintro e w9 ⟨rfl, B9⟩
    have E2' := Aside0.mk (Kd.R_below E2.out B9)
    have E4' := Aside0.mk (Kd.R_below E4.out B9)
    replace B := below_step B B9
    clear B9 E2 E4
    go_wp2_with fail
    refine (mark_ints _ _ E _ E4'.out HEl).mono ?_
    rintro e w10 ⟨rfl, M10, ⟨o10, s10⟩, B10⟩
    have E2 := Aside0.mk (R_same E2'.out (fun k hk => o10 k (fun e => by have h1 := L2.out k hk; have h2 := L4.out k e; omega)))
    have M := Aside0.mk M10
    replace B := Below.trans B (B10.mono hs2.out)
    clear B10 o10 s10 E2' E4' M10
    go_wp2_with fail
    have hml := marks_len E.length
    have Q := fun {W : World} (h : dI.R 3 W w2.heap.size (fun _ => True) (.slice A4 E.length c4) (marks E.length)) => held_ints A4 c4 E.length W (by have := (Kd.R_reads' h).2.2; rwa [marks_len] at this) (by have := (Kd.R_reads' h).2.1; exact this) HEl
    refine (Q M.out).mono ?_
    rintro e w11 ⟨rfl, B11⟩
    have E2' := Aside0.mk (Kd.R_below E2.out B11)
    have M' := Aside0.mk (Kd.R_below M.out B11)
    replace B := below_step B B11
    clear B11 E2 M
    go_wp2_with fail
    refine (ki _ B).mono ?_
    rintro e w13 ⟨A13, c13, rfl, R13, B13⟩
    have E2 := Aside0.mk (Kd.R_below E2'.out B13)
    have M := Aside0.mk (Kd.R_below M'.out B13)
    have E13 := Aside0.mk R13
    replace B := below_step B B13
    clear B13 E2' M' R13
    go_wp2_with fail
    refine (eqInts A13 c13 A2 c2 E E.length rfl _ (Kd.R_reads' E13.out).2.2 (Kd.R_reads' E13.out).2.1 (Kd.R_reads' E2.out).2.2 (Kd.R_reads' E2.out).2.1 HEl).mono ?_
    rintro e w14 ⟨rfl, B14⟩
    have M' := Aside0.mk (Kd.R_below M.out B14)
    replace B := below_step B B14
    clear B14 E2 M E13
    go_wp2_with fail
    refine (Q M'.out).mono ?_
    rintro e w15 ⟨rfl, B15⟩
    replace B := below_step B B15
    go_wp2
    go_ret
    exact ⟨rfl, B⟩
end Go.Proofs.YtfncjcnlndoelaaDoor.OwnCpL
