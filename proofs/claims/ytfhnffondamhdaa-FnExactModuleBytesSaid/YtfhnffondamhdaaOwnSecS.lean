/- Sections in bytes, the reference: a walk of our own. -/
import Derived.Test.YtfhnffondamhdaaOwnMbA
import Derived.BigRegion
import Derived.Deep.RegionHeld3
namespace Go.Proofs.Ytfhnffondamhdaa.OwnSecS
open Go Go.RowKit Go.Proofs.YtfhnffondamhdaaW.PrintWords Go.Proofs.YtfhnffondamhdaaW.PrintLast Go.Proofs.YtfhnffondamhdaaW.PrintMore Go.Proofs.Ytfhnffondamhdaa.OwnBs Go.Proofs.Ytfhnffondamhdaa.OwnKp Go.Proofs.Ytfhnffondamhdaa.OwnCode Go.Proofs.Ytfhnffondamhdaa.OwnSec
set_option linter.unusedVariables false
set_option linter.unusedSimpArgs false
set_option maxRecDepth 100000 in
set_option maxHeartbeats 40000000 in
theorem spec_sec (A : Option Addr) (c : Nat) (l : List (Int × ByteArray)) (w : World) (hr : Kd.C kS w A l.length l) (hc : l.length ≤ c) (hl : l.length ≤ 1048576) : Calls Try.prog 85 #[.slice A l.length c] w fun e w' => e = .returned (.tuple #[.string (secM l).1, .bool (secM l).2]) ∧ Below w.heap.size w w' := by
  have HR := Aside0.mk hr
  have cg := fun w hr => good_s A c l w hr hc hl
  clear hr
  unfold secM
  by_cases g : goodS l = true
  · rw [if_pos g]
    have HG := Aside0.mk g
    rw [g] at cg
    clear g
    generalize hS : allS l = S at *
    have HS0 := Aside0.mk hS
    clear hS
    obtain ⟨R1, R2, hR⟩ : ∃ R1 R2, (if 4000 < S.size then ((⟨#[]⟩ : ByteArray), false) else (S, true)) = (R1, R2) := ⟨_, _, rfl⟩
    rw [hR]
    have HRR := Aside0.mk hR
    clear hR
    go_enter Try.func85, Try.ntmps85
    go_wp2_with (go_at_call 110; (with_reducible refine (cg _ HR.out).mono ?_); rintro e w1 ⟨rfl, hb1⟩)
    clear cg
    have HB1 := Aside0.mk hb1
    clear hb1
    go_loopg [4, 12] l.length (fun kq v4 v12 w' => ∃ i : Nat, i + kq = l.length ∧ v4 = .string (allS (l.take i)) ∧ v12 = .int .i64 i ∧ Aside0 ((allS (l.take i)).size ≤ 1011 * i) ∧ Aside0 (Below w.heap.size w w'))
    case atStart => exact ⟨0, by omega, rfl, rfl, ⟨Nat.le_refl _⟩, ⟨HB1.out⟩⟩
    case round =>
      obtain ⟨i, hi, rfl, rfl, HZ, HB0⟩ := hrel
      cases gk with
      | zero =>
        obtain rfl : i = l.length := by omega
        rw [List.take_length, HS0.out]
        have hd : decide ((l.length : Int) < (l.length : Int)) = false := decide_eq_false (by omega)
        have HB := HB0.out
        clear HZ
        have hR := HRR.out
        by_cases z : 4000 < S.size
        · rw [if_pos z, Prod.mk.injEq] at hR
          obtain ⟨rfl, rfl⟩ := hR
          have h1 : decide ((4000 : Int) < (S.size : Int)) = true := decide_eq_true (by omega)
          have h2 : decide (4000 < S.size) = true := decide_eq_true (by omega)
          go_wp2
          go_ret2
          exact ⟨rfl, HB⟩
        · rw [if_neg z, Prod.mk.injEq] at hR
          obtain ⟨e1, rfl⟩ := hR
          have HE := Aside0.mk e1
          clear e1
          have h1 : decide ((4000 : Int) < (S.size : Int)) = false := decide_eq_false (by omega)
          have h2 : decide (4000 < S.size) = false := decide_eq_false (by omega)
          go_wp2
          go_ret2
          exact ⟨by rw [← HE.out]; rfl, HB⟩
      | succ k1 =>
        have hil : i < l.length := by omega
        have hd : decide ((i : Int) < (l.length : Int)) = true := decide_eq_true (by omega)
        obtain ⟨g0, g1, g2⟩ := goodS_at HG.out i hil
        obtain ⟨ad, e, hx0, hx1⟩ := at_sec HR.out i hil
        subst e
        replace hx0 := (HB0.out.cell (World.block_lt_of_cell? w _ hx0)).trans hx0
        replace hx1 := (HB0.out.cell (World.block_lt_of_cell? w _ hx1)).trans hx1
        have HS := Aside0.mk (allS_snoc l i hil)
        have hz := HZ.out
        have h11 := secS_size g2
        have HZ2 : Aside0 ((allS (l.take i) ++ secS l[i]).size ≤ 1011 * (i + 1)) := ⟨by rw [ByteArray.size_append]; omega⟩
        have hl20 := goodS_len HG.out
        have cu := fun w => uleb_s (l[i].2.size : Int) (by omega) (by omega) w
        have y3 := (ulebS_told (l[i].2.size : Int) (by omega) (by omega)).1
        have HT : Aside0 (secS l[i] = strOfNums [l[i].1] ++ ulebS (l[i].2.size : Int) ++ l[i].2) := ⟨rfl⟩
        generalize allS (l.take i) = s at *
        generalize l[i].1 = id at *
        generalize l[i].2 = body at *
        generalize secS l[i] = sc at *
        have y0 : (strOfNums [id]).size = 1 := by rw [Pl.strOfNums_size]; rfl
        have ew : IntKind.u64.wrap (body.size : Int) = body.size := by rw [IntKind.wrap_u64]; omega
        generalize ulebS (body.size : Int) = U at *
        have x1 : (9223372036854775807 < (strOfNums [id]).size + U.size) = False := eq_false (by omega)
        have x2 : (9223372036854775807 < (strOfNums [id] ++ U).size + body.size) = False := eq_false (by rw [ByteArray.size_append]; omega)
        have x2' : (9223372036854775807 < (strOfNums [id]).size + U.size + body.size) = False := eq_false (by omega)
        have x3 : (9223372036854775807 < s.size + (strOfNums [id] ++ U ++ body).size) = False := eq_false (by rw [ByteArray.size_append, ByteArray.size_append]; omega)
        have x3' : (9223372036854775807 < s.size + ((strOfNums [id]).size + U.size + body.size)) = False := eq_false (by omega)
        clear y0 y3 hz HZ h11
        have ew2 : IntKind.u8.wrap id = id := by rw [IntKind.wrap_u8]; omega
        have eid : id % 256 = id := by omega
        have hl1 := lit1_str
        have hl2 := lit1_drew1
        have hl3 := lit1_str1
        have HB := HB0.out
        clear HB0
        go_wp2
        clear HB1
        go_region_with (go_at_call 84; (with_reducible refine (cu _).mono ?_); rintro e w2 ⟨rfl, hb2⟩; (first | (have hv2 := lit1_kept1 _ _ _ _ hb2) | (have hv2 := lit1_kept1 _ _ _ _ (below_step (below_drew1 (Below.refl _ _)) hb2)) | skip); obtain ⟨hc2, hf2⟩ := bcell hb2; have hz2 : wr.heap.size < w2.heap.size := (by have := hb2.size; first | omega | (simp at this; omega)))
        all_goals
          try simp only [Exit.then]
          first | (rename_i kk; refine kk _ _ ?_) | (rename_i kk _; refine kk _ _ ?_) | (rename_i kk _ _; refine kk _ _ ?_) | (rename_i kk _ _ _; refine kk _ _ ?_) | (rename_i kk _ _ _ _; refine kk _ _ ?_)
          go_wp2
          go_roundg k1
          case measure => omega
          case rel => exact ⟨i + 1, by omega, by rw [HS.out, HT.out], by rw [Int.natCast_add]; rfl, ⟨by rw [HS.out]; exact HZ2.out⟩, ⟨(by repeat (first | (with_reducible exact Below.refl _ _) | (with_reducible exact HB) | (with_reducible refine below_alloc ?_ _) | (with_reducible refine below_drew1 ?_) | (with_reducible refine pw_below_drewN ?_ _) | (with_reducible refine below_set ?_ (by first | omega | (have := HB.size; omega))) | (with_reducible refine below_step ?_ hb2)))⟩⟩
  · rw [if_neg g]
    rw [Bool.not_eq_true] at g
    rw [g] at cg
    go_enter Try.func85, Try.ntmps85
    go_wp2_with (go_at_call 110; (with_reducible refine (cg _ HR.out).mono ?_); rintro e w1 ⟨rfl, hb1⟩)
    go_ret2
    exact ⟨rfl, hb1⟩
end Go.Proofs.Ytfhnffondamhdaa.OwnSecS
