/- CountPoints: the law, by walks of our own. -/
import Derived.Test.YtfmmmfddpfddoaaDoorOwnDcI
namespace Go.Proofs.YtfmmmfddpfddoaaDoor.OwnCtL
open Go Go.RowKit Go.Proofs.YtfmmmfddpfddoaaDoorW.PrintWords Go.Proofs.YtfmmmfddpfddoaaDoorW.PrintLast Go.Proofs.YtfmmmfddpfddoaaDoorW.PrintMore Go.Proofs.YtfmmmfddpfddoaaDoor.OwnIs Go.Proofs.YtfmmmfddpfddoaaDoor.OwnDcP Go.Proofs.YtfmmmfddpfddoaaDoor.OwnDcQ Go.Proofs.YtfmmmfddpfddoaaDoor.OwnDcI
set_option linter.unusedVariables false
set_option linter.unusedSimpArgs false
set_option maxRecDepth 100000 in
set_option maxHeartbeats 8000000 in
theorem ct_i (s : ByteArray) (hs : s.size ≤ 1048576) (w : World) (hT : Tabs w) : Calls Tryd.prog 8 #[.string s] w fun e w' => e = .returned (.tuple #[.int .i64 ((decM 1 s).1.length : Int), .bool (decM 1 s).2]) ∧ Below w.heap.size w w' := by
  have cd := dec_i 1 (by decide) s hs w hT
  have hln := (decM_good 1 s).2
  generalize decM 1 s = r at *
  obtain ⟨E, ok⟩ := r
  simp only at cd hln
  clear hT hs
  go_enter Tryd.func8, Tryd.ntmps8
  go_wp2_with fail
  refine cd.mono ?_
  rintro e w2 ⟨A2, c2, rfl, R2, B2⟩
  have B := B2
  clear cd
  go_wp2_with fail
  go_ret2
  exact ⟨rfl, B⟩
set_option maxRecDepth 100000 in
set_option maxHeartbeats 8000000 in
theorem ct_s (s : ByteArray) (hs : s.size ≤ 1048576) (w : World) (hT : Tabs w) : Calls Tryd.prog 7 #[.string s] w fun e w' => e = .returned (.tuple #[.int .i64 ((decM 1 s).1.length : Int), .bool (decM 1 s).2]) ∧ Below w.heap.size w w' := by
  have cd := dec2_s 1 (by decide) s w
  have hln := (decM_good 1 s).2
  have hno := decM_no 1 s
  generalize decM 1 s = r at *
  obtain ⟨E, ok⟩ := r
  simp only at cd hln hno
  clear hT hs
  obtain ⟨r1, q1, q2, q3⟩ := cd
  cases ok with
  | false =>
    obtain rfl := hno (by first | rfl | trivial)
    clear hno q2
    go_enter Tryd.func7, Tryd.ntmps7
    go_wp2_with fail
    refine q3.mono ?_
    rintro e w2 ⟨A2, c2, rfl, R2, B2⟩
    have B := B2
    clear q3
    go_wp2_with fail
    go_ret2
    exact ⟨rfl, B⟩
  | true =>
    obtain rfl : E = r1 := (q2 (by first | rfl | trivial)).symm
    clear hno q2
    go_enter Tryd.func7, Tryd.ntmps7
    go_wp2_with fail
    refine q3.mono ?_
    rintro e w2 ⟨A2, c2, rfl, R2, B2⟩
    have B := B2
    clear q3
    go_wp2_with fail
    go_ret2
    exact ⟨rfl, B⟩
set_option maxRecDepth 100000 in
set_option maxHeartbeats 8000000 in
theorem law_CountPoints (s : ByteArray) (hs0 : s.size ≤ 9223372036854775807) (w : World) (hT : Tabs w) : Calls Tryd.prog 4 #[.string s] w fun e w' => e = .returned (.bool true) ∧ Below w.heap.size w w' := by
  have HT := Aside0.mk hT
  clear hT
  by_cases z : 1048576 < s.size
  · have d1 : decide ((1048576 : Int) < (s.size : Int)) = true := decide_eq_true (by omega)
    have d2 : decide (1048576 < s.size) = true := decide_eq_true z
    go_enter Tryd.func4, Tryd.ntmps4
    go_wp2
    go_ret
    exact ⟨rfl, Below.refl _ _⟩
  · have hs : s.size ≤ 1048576 := by omega
    have d1 : decide ((1048576 : Int) < (s.size : Int)) = false := decide_eq_false (by omega)
    have d2 : decide (1048576 < s.size) = false := decide_eq_false z
    have ks := fun W (B : Below w.heap.size w W) => ct_s s hs W (Utf8Tabs_below HT.out B)
    have ki := fun W (B : Below w.heap.size w W) => ct_i s hs W (Utf8Tabs_below HT.out B)
    generalize decM 1 s = r at *
    obtain ⟨E, ok⟩ := r
    clear z hs hs0
    go_enter Tryd.func4, Tryd.ntmps4
    go_wp2_with fail
    refine (ks _ (Below.refl _ _)).mono ?_
    rintro e w2 ⟨rfl, B2⟩
    go_wp2_with fail
    refine (ki _ B2).mono ?_
    rintro e w3 ⟨rfl, B3⟩
    have B := below_step B2 B3
    clear B2 B3 ks ki
    go_wp2
    go_ret
    exact ⟨rfl, B⟩
end Go.Proofs.YtfmmmfddpfddoaaDoor.OwnCtL
