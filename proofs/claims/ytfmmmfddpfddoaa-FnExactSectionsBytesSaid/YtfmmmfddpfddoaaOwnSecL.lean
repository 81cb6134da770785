/- SectionsBytes: the law, by a walk of our own. -/
import Derived.Test.YtfmmmfddpfddoaaOwnSecS
import Derived.Test.YtfmmmfddpfddoaaOwnSecI
namespace Go.Proofs.Ytfmmmfddpfddoaa.OwnSecL
open Go Go.RowKit Go.Proofs.YtfmmmfddpfddoaaW.PrintWords Go.Proofs.YtfmmmfddpfddoaaW.PrintLast Go.Proofs.YtfmmmfddpfddoaaW.PrintMore Go.Proofs.Ytfmmmfddpfddoaa.OwnBs Go.Proofs.Ytfmmmfddpfddoaa.OwnKp Go.Proofs.Ytfmmmfddpfddoaa.OwnSec Go.Proofs.Ytfmmmfddpfddoaa.OwnSecS Go.Proofs.Ytfmmmfddpfddoaa.OwnSecI
set_option linter.unusedVariables false
set_option linter.unusedSimpArgs false
theorem law_SectionsBytes (A : Option Addr) (c : Nat) (l : List (Int × ByteArray)) (w : World) (hr : Kd.C kS w A l.length l) (hc : l.length ≤ c) (hm : l.length ≤ 9223372036854775807) : Calls Try.prog 5 #[.slice A l.length c] w fun e w' => e = .returned (.bool true) ∧ Below w.heap.size w w' := by
  have HR := Aside0.mk hr
  have cz := fun w hr => szSec A c l 1048576 w hr hc hm
  clear hr
  by_cases z : leftM l 1048576 < 0
  · generalize leftM l 1048576 = q at *
    go_enter Try.func5, Try.ntmps5
    go_wp2_with (go_at_call 19; (with_reducible refine (cz _ HR.out).mono ?_); rintro e w' ⟨rfl, hb0⟩)
    go_ret
    exact ⟨rfl, hb0⟩
  · have hl : l.length ≤ 1048576 := by
      unfold leftM at z
      split at z
      · omega
      · rename_i h; unfold wrap64 at h; omega
    generalize leftM l 1048576 = q at *
    go_enter Try.func5, Try.ntmps5
    go_wp2_with (go_at_call 19; (with_reducible refine (cz _ HR.out).mono ?_); rintro e w0 ⟨rfl, B0⟩)
    clear cz
    refine (toSec A c l _ (Kd.C_below HR.out B0) hc hl).mono ?_
    rintro e w1 ⟨A1, c1, rfl, k1, C1, B1⟩
    go_wp2_with fail
    refine (spec_sec A1 c1 l _ C1 k1 hl).mono ?_
    rintro e w2 ⟨rfl, B2⟩
    have B := below_step B0 (below_step B1 B2)
    clear B1 B2 C1 B0
    go_wp2_with fail
    refine (toSec A c l _ (Kd.C_below HR.out B) hc hl).mono ?_
    rintro e w3 ⟨A3, c3, rfl, k3, C3, B3⟩
    replace B := below_step B B3
    clear B3
    go_wp2_with fail
    refine (impl_sec A3 c3 l _ C3 k3 hl).mono ?_
    rintro e w4 ⟨rfl, B4⟩
    have D3 := Aside0.mk (Kd.C_below C3 B4)
    replace B := below_step B B4
    clear B4 C3
    go_wp2_with fail
    refine (toSec A c l _ (Kd.C_below HR.out B) hc hl).mono ?_
    rintro e w5 ⟨A5, c5, rfl, k5, C5, B5⟩
    replace B := below_step B B5
    go_wp2_with fail
    refine (eqSec A3 c3 A5 c5 l _ (Kd.C_below D3.out B5) k3 C5 k5 hl).mono ?_
    rintro e w6 ⟨rfl, B6⟩
    replace B := below_step B B6
    clear B5 B6 C5
    go_wp2
    go_ret
    exact ⟨rfl, B⟩
end Go.Proofs.Ytfmmmfddpfddoaa.OwnSecL
