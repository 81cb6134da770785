/- Sections in bytes, the program: a walk of our own. -/
import Derived.Test.YtfmmmfddpfddoaaOwnSec
import Derived.Test.YtfmmmfddpfddoaaOwnBld
import Derived.BigRegion
namespace Go.Proofs.Ytfmmmfddpfddoaa.OwnSecI
open Go Go.RowKit Go.Proofs.YtfmmmfddpfddoaaW.PrintWords Go.Proofs.YtfmmmfddpfddoaaW.PrintLast Go.Proofs.YtfmmmfddpfddoaaW.PrintMore Go.Proofs.Ytfmmmfddpfddoaa.OwnBs Go.Proofs.Ytfmmmfddpfddoaa.OwnKp Go.Proofs.Ytfmmmfddpfddoaa.OwnSec Go.Proofs.Ytfmmmfddpfddoaa.OwnBld
set_option linter.unusedVariables false
set_option linter.unusedSimpArgs false
set_option maxRecDepth 100000 in
set_option maxHeartbeats 40000000 in
theorem impl_sec (A : Option Addr) (c : Nat) (l : List (Int × ByteArray)) (w : World) (hr : Kd.C kS w A l.length l) (hc : l.length ≤ c) (hl : l.length ≤ 1048576) : Calls Try.prog 22 #[.slice A l.length c] w fun e w' => e = .returned (.tuple #[.string (secM l).1, .bool (secM l).2]) ∧ Below w.heap.size w w' := by
  have HR := Aside0.mk hr
  have cg := fun w hr => good_i A c l w hr hc hl
  clear hr
  unfold secM
  by_cases g : goodS l = true
  · rw [if_pos g]
    have HG := Aside0.mk g
    rw [g] at cg
    clear g
    generalize hS : allS l = S at *
    have HS0 := Aside0.mk hS
    clear hS
    obtain ⟨R1, R2, hR⟩ : ∃ R1 R2, (if 4000 < S.size then ((⟨#[]⟩ : ByteArray), false) else (S, true)) = (R1, R2) := ⟨_, _, rfl⟩
    rw [hR]
    have HRR := Aside0.mk hR
    clear hR
    go_enter Try.func22, Try.ntmps22
    go_wp2_with (go_at_call 63; (with_reducible refine (cg _ HR.out).mono ?_); rintro e w1 ⟨rfl, hb1⟩)
    clear cg
    have HB1 := Aside0.mk hb1
    have hFr := fresh w.heap.size w1 hb1.size
    have HW1 : Aside0 (w.heap.size ≤ w1.heap.size) := ⟨hb1.size⟩
    clear hb1
    go_loopg [13] l.length (fun kq v13 w' => ∃ i : Nat, i + kq = l.length ∧ v13 = .int .i64 i ∧ Aside0 ((allS (l.take i)).size ≤ 1011 * i) ∧ Aside0 (Is w.heap.size w1.heap.size (Lib.strCells (allS (l.take i))) w' ∧ Below w.heap.size w w'))
    case atStart => exact ⟨0, by omega, rfl, ⟨Nat.le_refl _⟩, ⟨hFr, below_alloc HB1.out _⟩⟩
    case round =>
      clear hFr
      obtain ⟨i, hi, rfl, HZ, HIB⟩ := hrel
      cases gk with
      | zero =>
        obtain rfl : i = l.length := by omega
        rw [List.take_length, HS0.out] at HIB
        have hd : decide ((l.length : Int) < (l.length : Int)) = false := decide_eq_false (by omega)
        clear HZ
        have hR := HRR.out
        have cl := fun W h => lenB w.heap.size w1.heap.size S W h
        have ct := fun W h h2 => textB w.heap.size w1.heap.size S W h h2
        by_cases z : 4000 < S.size
        · rw [if_pos z, Prod.mk.injEq] at hR
          obtain ⟨rfl, rfl⟩ := hR
          have h1 : decide ((4000 : Int) < (S.size : Int)) = true := decide_eq_true (by omega)
          have h2 : decide (4000 < S.size) = true := decide_eq_true (by omega)
          go_wp2_with (go_at_call 67; (with_reducible refine (cl _ (keepsI HIB.out.1 (by repeat (first | (with_reducible exact Below.refl _ _) | (with_reducible refine below_alloc ?_ _) | (with_reducible refine below_drew1 ?_) | (with_reducible refine pw_below_drewN ?_ _))))).mono ?_); rintro e w2 ⟨rfl, rfl⟩)
          go_ret2
          exact ⟨rfl, by have HB := HIB.out.2; exact (by repeat (first | (with_reducible exact Below.refl _ _) | (with_reducible exact HB) | (with_reducible exact HB2) | (with_reducible refine below_alloc ?_ _) | (with_reducible refine below_drew1 ?_) | (with_reducible refine pw_below_drewN ?_ _)))⟩
        · rw [if_neg z, Prod.mk.injEq] at hR
          obtain ⟨e1, rfl⟩ := hR
          have HE := Aside0.mk e1
          clear e1
          have h1 : decide ((4000 : Int) < (S.size : Int)) = false := decide_eq_false (by omega)
          have h2 : decide (4000 < S.size) = false := decide_eq_false (by omega)
          go_wp2_with (first
            | (go_at_call 68; (with_reducible refine (ct _ (keepsI HIB.out.1 (by repeat (first | (with_reducible exact Below.refl _ _) | (with_reducible refine below_alloc ?_ _) | (with_reducible refine below_drew1 ?_) | (with_reducible refine pw_below_drewN ?_ _)))) (by have := HIB.out.2.size; first | exact this | omega | (simp; omega))).mono ?_); rintro e w3 ⟨rfl, hb3⟩)
            | (go_at_call 67; (with_reducible refine (cl _ (keepsI HIB.out.1 (by repeat (first | (with_reducible exact Below.refl _ _) | (with_reducible refine below_alloc ?_ _) | (with_reducible refine below_drew1 ?_) | (with_reducible refine pw_below_drewN ?_ _))))).mono ?_); rintro e w2 ⟨rfl, rfl⟩))
          go_ret2
          refine ⟨by rw [← HE.out]; rfl, ?_⟩
          have HB := HIB.out.2
          exact Below.trans (by repeat (first | (with_reducible exact Below.refl _ _) | (with_reducible exact HB) | (with_reducible exact HB2) | (with_reducible refine below_alloc ?_ _) | (with_reducible refine below_drew1 ?_) | (with_reducible refine pw_below_drewN ?_ _))) hb3
      | succ k1 =>
        have hil : i < l.length := by omega
        have hd : decide ((i : Int) < (l.length : Int)) = true := decide_eq_true (by omega)
        obtain ⟨g0, g1, g2⟩ := goodS_at HG.out i hil
        obtain ⟨ad, e, hx0, hx1⟩ := at_sec HR.out i hil
        subst e
        replace hx0 := (HIB.out.2.cell (World.block_lt_of_cell? w _ hx0)).trans hx0
        replace hx1 := (HIB.out.2.cell (World.block_lt_of_cell? w _ hx1)).trans hx1
        have HS := Aside0.mk (allS_snoc l i hil)
        have hz := HZ.out
        have h11 := secS_size g2
        have HZ2 : Aside0 ((allS (l.take i) ++ secS l[i]).size ≤ 1011 * (i + 1)) := ⟨by rw [ByteArray.size_append]; omega⟩
        have hl20 := goodS_len HG.out
        have cu := fun w => uleb_i (l[i].2.size : Int) (by omega) (by omega) w
        have y3 := (ulebS_told (l[i].2.size : Int) (by omega) (by omega)).1
        have HT : Aside0 (secS l[i] = strOfNums [l[i].1] ++ ulebS (l[i].2.size : Int) ++ l[i].2) := ⟨rfl⟩
        generalize allS (l.take i) = s at *
        generalize l[i].1 = id at *
        generalize l[i].2 = body at *
        generalize secS l[i] = sc at *
        have ew : IntKind.u64.wrap (body.size : Int) = body.size := by rw [IntKind.wrap_u64]; omega
        generalize ulebS (body.size : Int) = U at *
        have x1 : (9223372036854775807 < U.size + body.size) = False := eq_false (by omega)
        have ew2 : IntKind.u8.wrap id = id := by rw [IntKind.wrap_u8]; omega
        have eid : id % 256 = id := by omega
        have HLen : Aside0 ((Lib.strCells s).length ≤ 30000 ∧ (U ++ body).size ≤ 2000 ∧ (Lib.strCells s ++ [Value.int IntKind.u8 id]).length ≤ 30001) := ⟨by rw [List.length_append, Lib.strCells_length, ByteArray.size_append]; simp; omega⟩
        have HCat : Aside0 (Lib.strCells s ++ [Value.int IntKind.u8 id] ++ Lib.strCells (U ++ body) = Lib.strCells (s ++ sc)) := ⟨by rw [HT.out, show strOfNums [id] ++ U ++ body = strOfNums [id] ++ (U ++ body) from ByteArray.append_assoc, strCells_append s, strCells_append (strOfNums [id]), strCells_one id (by omega) (by omega), List.append_assoc]⟩
        clear y3 hz HZ h11
        have HB := HIB.out.2
        have HIs := Aside0.mk HIB.out.1
        clear HIB
        have hlt1 : Aside0 (w1.heap.size < wr.heap.size) := ⟨by rcases HIs.out with h | h <;> exact h.lt⟩
        have hxa : (wr.alloc (.cells #[.int .i64 id, .string body] 87)).heap[wr.heap.size]? = some (.cells #[.int .i64 id, .string body] 87 (0, 0)) := heap_new wr _
        have HXA := Aside0.mk hxa
        clear hxa
        go_wp2_with (go_at_call 64; (with_reducible refine (writeByte w.heap.size w1.heap.size _ id _ (keepsI HIs.out (by repeat (first | (with_reducible exact Below.refl _ _) | (with_reducible refine below_alloc ?_ _) | (with_reducible refine below_drew1 ?_) | (with_reducible refine pw_below_drewN ?_ _)))) (by have := HLen.out.1; omega) (Nat.le_trans HB.size (by simp))).mono ?_); rintro e w2 ⟨rfl, hA2, hb2, hK2⟩)
        have HX2 := hK2 wr.heap.size _ _ _ HXA.out (by decide) (by have := hlt1.out; omega)
        have HB2 : Below w.heap.size w w2 := Below.trans (below_alloc HB _) hb2
        have HA2 := Aside0.mk hA2
        clear hK2 hA2 hb2
        have hc20 : w2.cell? ⟨wr.heap.size, 0, none⟩ = some (.int .i64 id) := by rw [Lib.cell_of_heap HX2]; rfl
        have hc21 : w2.cell? ⟨wr.heap.size, 1, none⟩ = some (.string body) := by rw [Lib.cell_of_heap HX2]; rfl
        have hz2 : wr.heap.size < w2.heap.size := blk_lt HX2
        clear HX2
        go_wp2_with fail
        go_region_with (first
          | (go_at_call 65; (with_reducible refine (writeString w.heap.size w1.heap.size _ (U ++ body) _ (isR (keeps HA2.out (by repeat (first | (with_reducible exact Below.refl _ _) | (with_reducible refine below_alloc ?_ _) | (with_reducible refine below_drew1 ?_) | (with_reducible refine pw_below_drewN ?_ _) | (with_reducible refine below_step ?_ hb3))))) (by have := HLen.out.2.2; omega) (by have := HLen.out.2.1; omega) (Below.size (B := w.heap.size) (w := w) (by repeat (first | (with_reducible exact Below.refl _ _) | (with_reducible exact HB) | (with_reducible exact HB2) | (with_reducible refine below_alloc ?_ _) | (with_reducible refine below_drew1 ?_) | (with_reducible refine pw_below_drewN ?_ _) | (with_reducible refine below_step ?_ hb3))))).mono ?_); rintro e w4 ⟨rfl, hA4, hb4, hK4⟩; have HB4 : Below w.heap.size w w4 := Below.trans (by repeat (first | (with_reducible exact Below.refl _ _) | (with_reducible exact HB) | (with_reducible exact HB2) | (with_reducible refine below_alloc ?_ _) | (with_reducible refine below_drew1 ?_) | (with_reducible refine pw_below_drewN ?_ _) | (with_reducible refine below_step ?_ hb3))) hb4; have HA4 := Aside0.mk hA4; clear hA4 hK4)
          | (go_at_call 66; (with_reducible refine (cu _).mono ?_); rintro e w3 ⟨rfl, hb3⟩; have hbq3 : Below w2.heap.size w2 w3 := below_step (by repeat (first | (with_reducible exact Below.refl _ _) | (with_reducible refine below_alloc ?_ _) | (with_reducible refine below_drew1 ?_) | (with_reducible refine pw_below_drewN ?_ _))) hb3; have hc30 : w3.cell? ⟨wr.heap.size, 0, none⟩ = some (.int .i64 id) := (hbq3.cell hz2).trans hc20; have hc31 : w3.cell? ⟨wr.heap.size, 1, none⟩ = some (.string body) := (hbq3.cell hz2).trans hc21; have hz3 : wr.heap.size < w3.heap.size := (by have := hb3.size; first | omega | (simp at this; omega))))
        all_goals
          try simp only [Exit.then]
          first | (rename_i kk; refine kk _ _ ?_) | (rename_i kk _; refine kk _ _ ?_) | (rename_i kk _ _; refine kk _ _ ?_) | (rename_i kk _ _ _; refine kk _ _ ?_) | (rename_i kk _ _ _ _; refine kk _ _ ?_)
          go_wp2
          go_roundg k1
          case measure => omega
          case rel => exact ⟨i + 1, by omega, by rw [Int.natCast_add]; rfl, ⟨by rw [HS.out]; exact HZ2.out⟩, ⟨by rw [HS.out, ← HCat.out]; exact isR HA4.out, HB4⟩⟩
  · rw [if_neg g]
    rw [Bool.not_eq_true] at g
    rw [g] at cg
    go_enter Try.func22, Try.ntmps22
    go_wp2_with (go_at_call 63; (with_reducible refine (cg _ HR.out).mono ?_); rintro e w1 ⟨rfl, hb1⟩)
    go_ret2
    exact ⟨rfl, hb1⟩
end Go.Proofs.Ytfmmmfddpfddoaa.OwnSecI
