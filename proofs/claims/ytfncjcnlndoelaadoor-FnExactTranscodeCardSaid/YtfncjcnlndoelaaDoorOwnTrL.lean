/- Transcode: the law, by walks of our own. -/
import Derived.Test.YtfncjcnlndoelaaDoorOwnDcL
import Derived.Test.YtfncjcnlndoelaaDoorOwnTextE
namespace Go.Proofs.YtfncjcnlndoelaaDoor.OwnTrL
open Go Go.RowKit Go.Proofs.YtfncjcnlndoelaaDoorW.PrintWords Go.Proofs.YtfncjcnlndoelaaDoorW.PrintLast Go.Proofs.YtfncjcnlndoelaaDoorW.PrintMore Go.Proofs.YtfncjcnlndoelaaDoor.OwnIs Go.Proofs.YtfncjcnlndoelaaDoor.OwnDcP Go.Proofs.YtfncjcnlndoelaaDoor.OwnDcQ Go.Proofs.YtfncjcnlndoelaaDoor.OwnDcI Go.Proofs.YtfncjcnlndoelaaDoor.OwnDcL
set_option linter.unusedVariables false
set_option linter.unusedSimpArgs false
/-- What Transcode tells. -/
def trM (s : ByteArray) (frm tc : Int) : ByteArray × Bool := if (deC s frm).2 = true then OwnText.encM (deC s frm).1 tc else (⟨#[]⟩, false)
set_option maxRecDepth 100000 in
set_option maxHeartbeats 8000000 in
theorem tr_i (s : ByteArray) (frm tc : Int) (hs : s.size ≤ 1048576) (w : World) (hT : Tabs w) : Calls Tryd.prog 16 #[.string s, .int .i64 frm, .int .i64 tc] w fun e w' => e = .returned (.tuple #[.string (trM s frm tc).1, .bool (trM s frm tc).2]) ∧ Below w.heap.size w w' := by
  have cd := fun W (B : Below w.heap.size w W) => dp_i frm s hs W (Utf8Tabs_below hT B)
  have hln := deC_len s frm
  unfold trM
  generalize deC s frm = r at *
  obtain ⟨E, ok⟩ := r
  simp only at cd hln
  clear hT hs
  cases ok with
  | false =>
    simp only [Bool.false_eq_true, if_false]
    go_enter Tryd.func16, Tryd.ntmps16
    go_wp2_with fail
    refine (cd _ (Below.refl _ _)).mono ?_
    rintro e w2 ⟨A2, c2, rfl, R2, B2⟩
    have B := B2
    clear cd
    go_wp2_with fail
    go_ret2
    exact ⟨rfl, B⟩
  | true =>
    simp only [if_true]
    have ce0 := fun A2 c2 W h1 h2 => OwnText.encode_i A2 c2 E tc W h1 h2 (by omega)
    generalize OwnText.encM E tc = q at *
    obtain ⟨q1, q2⟩ := q
    simp only at ce0
    go_enter Tryd.func16, Tryd.ntmps16
    go_wp2_with fail
    refine (cd _ (Below.refl _ _)).mono ?_
    rintro e w2 ⟨A2, c2, rfl, R2, B2⟩
    have hrd := Kd.R_reads' R2
    have ce := ce0 A2 c2 w2 hrd.2.2 hrd.2.1
    have B := Aside0.mk B2
    clear cd R2 B2 hrd ce0
    go_wp2_with fail
    refine ce.mono ?_
    rintro e w3 ⟨rfl, hb3⟩
    have B3 := Aside0.mk (below_step B.out hb3)
    clear hb3
    go_wp2_with fail
    go_ret2
    exact ⟨rfl, B3.out⟩
set_option maxRecDepth 100000 in
set_option maxHeartbeats 8000000 in
theorem tr_s (s : ByteArray) (frm tc : Int) (hs : s.size ≤ 1048576) (w : World) (hT : Tabs w) : Calls Tryd.prog 15 #[.string s, .int .i64 frm, .int .i64 tc] w fun e w' => e = .returned (.tuple #[.string (trM s frm tc).1, .bool (trM s frm tc).2]) ∧ Below w.heap.size w w' := by
  have cd := fun W (B : Below w.heap.size w W) => dp_s frm s W
  have hln := deC_len s frm
  unfold trM
  generalize deC s frm = r at *
  obtain ⟨E, ok⟩ := r
  simp only at cd hln
  clear hT hs
  cases ok with
  | false =>
    simp only [Bool.false_eq_true, if_false]
    go_enter Tryd.func15, Tryd.ntmps15
    go_wp2_with fail
    refine (cd _ (Below.refl _ _)).mono ?_
    rintro e w2 ⟨A2, c2, rfl, R2, B2⟩
    have B := B2
    clear cd
    go_wp2_with fail
    go_ret2
    exact ⟨rfl, B⟩
  | true =>
    simp only [if_true]
    have ce0 := fun A2 c2 W h1 h2 => OwnTextE.spec_EncodePoints A2 c2 E tc W h1 h2 (by omega)
    generalize OwnText.encM E tc = q at *
    obtain ⟨q1, q2⟩ := q
    simp only at ce0
    go_enter Tryd.func15, Tryd.ntmps15
    go_wp2_with fail
    refine (cd _ (Below.refl _ _)).mono ?_
    rintro e w2 ⟨A2, c2, rfl, R2, B2⟩
    have hrd := Kd.R_reads' R2
    have ce := ce0 A2 c2 w2 hrd.2.2 hrd.2.1
    have B := Aside0.mk B2
    clear cd R2 B2 hrd ce0
    go_wp2_with fail
    refine ce.mono ?_
    rintro e w3 ⟨rfl, hb3⟩
    have B3 := Aside0.mk (below_step B.out hb3)
    clear hb3
    go_wp2_with fail
    go_ret2
    exact ⟨rfl, B3.out⟩
set_option maxRecDepth 100000 in
set_option maxHeartbeats 8000000 in
theorem law_Transcode (s : ByteArray) (frm tc : Int) (hs0 : s.size ≤ 9223372036854775807) (w : World) (hT : Tabs w) : Calls Tryd.prog 5 #[.string s, .int .i64 frm, .int .i64 tc] w fun e w' => e = .returned (.bool true) ∧ Below w.heap.size w w' := by
  have HT := Aside0.mk hT
  clear hT
  by_cases z : 1048576 < s.size
  · have d1 : decide ((1048576 : Int) < (s.size : Int)) = true := decide_eq_true (by omega)
    have d2 : decide (1048576 < s.size) = true := decide_eq_true z
    go_enter Tryd.func5, Tryd.ntmps5
    go_wp2
    go_ret
    exact ⟨rfl, Below.refl _ _⟩
  · have hs : s.size ≤ 1048576 := by omega
    have d1 : decide ((1048576 : Int) < (s.size : Int)) = false := decide_eq_false (by omega)
    have d2 : decide (1048576 < s.size) = false := decide_eq_false z
    have ks := fun W (B : Below w.heap.size w W) => tr_s s frm tc hs W (Utf8Tabs_below HT.out B)
    have ki := fun W (B : Below w.heap.size w W) => tr_i s frm tc hs W (Utf8Tabs_below HT.out B)
    generalize trM s frm tc = r at *
    obtain ⟨E, ok⟩ := r
    clear z hs hs0
    go_enter Tryd.func5, Tryd.ntmps5
    go_wp2_with fail
    refine (ks _ (Below.refl _ _)).mono ?_
    rintro e w2 ⟨rfl, B2⟩
    go_wp2_with fail
    refine (ki _ B2).mono ?_
    rintro e w3 ⟨rfl, B3⟩
    have B := below_step B2 B3
    clear B2 B3 ks ki
    go_wp2
    go_ret
    exact ⟨rfl, B⟩
end Go.Proofs.YtfncjcnlndoelaaDoor.OwnTrL
