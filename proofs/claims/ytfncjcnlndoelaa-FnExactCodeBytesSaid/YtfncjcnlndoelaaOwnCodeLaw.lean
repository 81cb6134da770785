/- CodeBytes: both sides and the law, by walks of our own. -/
import Derived.Test.YtfncjcnlndoelaaOwnCode
import Derived.Test.YtfncjcnlndoelaaOwnInsS
namespace Go.Proofs.Ytfncjcnlndoelaa.OwnCodeLaw
open Go Go.RowKit Go.Proofs.YtfncjcnlndoelaaW.PrintWords Go.Proofs.YtfncjcnlndoelaaW.PrintLast Go.Proofs.YtfncjcnlndoelaaW.PrintMore Go.Proofs.Ytfncjcnlndoelaa.OwnBs Go.Proofs.Ytfncjcnlndoelaa.OwnKp Go.Proofs.Ytfncjcnlndoelaa.OwnCode Go.Proofs.Ytfncjcnlndoelaa.OwnInsS
set_option linter.unusedVariables false
set_option linter.unusedSimpArgs false
set_option maxRecDepth 100000 in
set_option maxHeartbeats 8000000 in
theorem bytes_code (A : Option Addr) (c : Nat) (l : List (Int × Int)) (w : World) (hr : Kd.C kI w A l.length l) (hc : l.length ≤ c) (g : goodC l = true) (hw : ∀ p ∈ l, -9223372036854775808 ≤ p.2 ∧ p.2 < 9223372036854775808) : Calls Try.prog 61 #[.slice A l.length c] w fun e w' => e = .returned (.string (codeS l)) ∧ Below w.heap.size w w' := by
  have HR := Aside0.mk hr
  have HG := Aside0.mk g
  have HW := Aside0.mk hw
  have hl := goodC_len g
  clear hr g hw
  go_enter Try.func61, Try.ntmps61
  go_wp2
  go_loopg [3, 8] l.length (fun kq v3 v8 w' => ∃ i : Nat, i + kq = l.length ∧ v3 = .string (codeS (l.take i)) ∧ v8 = .int .i64 i ∧ Aside0 ((codeS (l.take i)).size ≤ 11 * i) ∧ Aside0 (Below w.heap.size w w'))
  case atStart => exact ⟨0, by omega, rfl, rfl, ⟨Nat.le_refl _⟩, ⟨Below.refl _ _⟩⟩
  case round =>
    obtain ⟨i, hi, rfl, rfl, HZ, HB0⟩ := hrel
    cases gk with
    | zero =>
      obtain rfl : i = l.length := by omega
      rw [List.take_length]
      have hd : decide ((l.length : Int) < (l.length : Int)) = false := decide_eq_false (by omega)
      go_wp2
      go_ret
      exact ⟨rfl, HB0.out⟩
    | succ k1 =>
      have hil : i < l.length := by omega
      have hd : decide ((i : Int) < (l.length : Int)) = true := decide_eq_true (by omega)
      have HI := Aside0.mk (goodC_at HG.out i hil)
      obtain ⟨ad, e, hx0, hx1⟩ := at_ins HR.out i hil
      subst e
      replace hx0 := (HB0.out.cell (World.block_lt_of_cell? w _ hx0)).trans hx0
      replace hx1 := (HB0.out.cell (World.block_lt_of_cell? w _ hx1)).trans hx1
      have HS := Aside0.mk (codeS_snoc l i hil)
      have HA := HW.out l[i] (List.getElem_mem hil)
      have hz := HZ.out
      generalize codeS (l.take i) = s at *
      generalize l[i].1 = op at *
      generalize l[i].2 = a at *
      have ho := shape_op HI.out
      have hlit := lit1_str1
      have z1 : (9223372036854775807 < s.size + (strOfNums [op]).size) = False := eq_false (by rw [Pl.strOfNums_size]; simp; omega)
      have eo : op % 256 = op := by omega
      have cf := fun w => shape_s op w
      have ht := tailS_size HI.out HA
      have HT : Aside0 (insS op a = strOfNums [op] ++ tailS op a) := ⟨by unfold insS; rw [eo]⟩
      have z2 : (9223372036854775807 < (s ++ strOfNums [op]).size + (tailS op a).size) = False := eq_false (by rw [ByteArray.size_append, Pl.strOfNums_size]; simp; omega)
      have z3 : (9223372036854775807 < s.size + (strOfNums [op]).size + (tailS op a).size) = False := eq_false (by rw [Pl.strOfNums_size]; simp; omega)
      have HZ2 : Aside0 ((s ++ (strOfNums [op] ++ tailS op a)).size ≤ 11 * (i + 1)) := ⟨by rw [ByteArray.size_append, ByteArray.size_append, Pl.strOfNums_size]; simp; omega⟩
      clear eo hz HZ
      have HB := HB0.out
      clear HB0
      rcases goodI_says HI.out with h | ⟨h, h1, h2⟩ | ⟨h, h1, h2⟩ | ⟨h, h1, h2⟩ | h | h | ⟨h, h1, h2⟩
      · have et : tailS op a = ⟨#[]⟩ := by unfold tailS; rw [if_neg (by omega), if_neg (by omega), if_neg (by omega), if_neg (by omega)]
        rw [et] at HT HZ2 z2 z3
        rw [h] at cf
        clear et ht h
        go_wp2_with (first | (go_at_call 85; (with_reducible refine (cf _).mono ?_); rintro e w' ⟨rfl, n, rfl⟩))
        go_roundg k1
        case measure => omega
        case rel => exact ⟨i + 1, by omega, by rw [HS.out, HT.out]; exact congrArg (fun x => Value.string (s ++ x)) (ByteArray.append_empty).symm, by rw [Int.natCast_add]; rfl, ⟨by rw [HS.out, HT.out]; exact HZ2.out⟩, ⟨by repeat (first | (with_reducible exact HB) | (with_reducible refine below_alloc ?_ _) | (with_reducible refine below_drew1 ?_) | (with_reducible refine pw_below_drewN ?_ _) | (with_reducible refine below_step ?_ hb1))⟩⟩
      · have et : tailS op a = strOfNums [a] := by unfold tailS; rw [if_pos h, show a % 256 = a by omega]
        rw [et] at HT HZ2 z2 z3
        rw [h] at cf
        clear et ht h
        have hlit2 := lit1_str2
        go_wp2_with (first | (go_at_call 85; (with_reducible refine (cf _).mono ?_); rintro e w' ⟨rfl, n, rfl⟩))
        go_roundg k1
        case measure => omega
        case rel => exact ⟨i + 1, by omega, by rw [HS.out, HT.out]; rw [ByteArray.append_assoc], by rw [Int.natCast_add]; rfl, ⟨by rw [HS.out, HT.out]; exact HZ2.out⟩, ⟨by repeat (first | (with_reducible exact HB) | (with_reducible refine below_alloc ?_ _) | (with_reducible refine below_drew1 ?_) | (with_reducible refine pw_below_drewN ?_ _) | (with_reducible refine below_step ?_ hb1))⟩⟩
      · have et : tailS op a = ulebS a := by unfold tailS; rw [if_neg (by omega), if_pos (by omega)]
        rw [et] at HT HZ2 z2 z3
        rw [h] at cf
        clear et ht h
        have ct := fun w => uleb_s a h1 (by omega) w
        generalize ulebS a = T at *
        go_wp2_with (first | (go_at_call 85; (with_reducible refine (cf _).mono ?_); rintro e w' ⟨rfl, n, rfl⟩) | (go_at_call 86; (with_reducible refine (ct _).mono ?_); rintro e w1 ⟨rfl, hb1⟩))
        go_roundg k1
        case measure => omega
        case rel => exact ⟨i + 1, by omega, by rw [HS.out, HT.out]; rw [ByteArray.append_assoc], by rw [Int.natCast_add]; rfl, ⟨by rw [HS.out, HT.out]; exact HZ2.out⟩, ⟨by repeat (first | (with_reducible exact HB) | (with_reducible refine below_alloc ?_ _) | (with_reducible refine below_drew1 ?_) | (with_reducible refine pw_below_drewN ?_ _) | (with_reducible refine below_step ?_ hb1))⟩⟩
      · have et : tailS op a = ulebS a := by unfold tailS; rw [if_neg (by omega), if_pos (by omega)]
        rw [et] at HT HZ2 z2 z3
        rw [h] at cf
        clear et ht h
        have ct := fun w => uleb_s a h1 (by omega) w
        generalize ulebS a = T at *
        go_wp2_with (first | (go_at_call 85; (with_reducible refine (cf _).mono ?_); rintro e w' ⟨rfl, n, rfl⟩) | (go_at_call 86; (with_reducible refine (ct _).mono ?_); rintro e w1 ⟨rfl, hb1⟩))
        go_roundg k1
        case measure => omega
        case rel => exact ⟨i + 1, by omega, by rw [HS.out, HT.out]; rw [ByteArray.append_assoc], by rw [Int.natCast_add]; rfl, ⟨by rw [HS.out, HT.out]; exact HZ2.out⟩, ⟨by repeat (first | (with_reducible exact HB) | (with_reducible refine below_alloc ?_ _) | (with_reducible refine below_drew1 ?_) | (with_reducible refine pw_below_drewN ?_ _) | (with_reducible refine below_step ?_ hb1))⟩⟩
      · have et : tailS op a = slebS a := by unfold tailS; rw [if_neg (by omega), if_neg (by omega), if_pos (by omega)]
        rw [et] at HT HZ2 z2 z3
        rw [h] at cf
        clear et ht h
        have ct := fun w => sleb_s a HA.1 HA.2 w
        have hA1 := HA.1
        have hA2 := HA.2
        generalize slebS a = T at *
        go_wp2_with (first | (go_at_call 85; (with_reducible refine (cf _).mono ?_); rintro e w' ⟨rfl, n, rfl⟩) | (go_at_call 87; (with_reducible refine (ct _).mono ?_); rintro e w1 ⟨rfl, hb1⟩))
        go_roundg k1
        case measure => omega
        case rel => exact ⟨i + 1, by omega, by rw [HS.out, HT.out]; rw [ByteArray.append_assoc], by rw [Int.natCast_add]; rfl, ⟨by rw [HS.out, HT.out]; exact HZ2.out⟩, ⟨by repeat (first | (with_reducible exact HB) | (with_reducible refine below_alloc ?_ _) | (with_reducible refine below_drew1 ?_) | (with_reducible refine pw_below_drewN ?_ _) | (with_reducible refine below_step ?_ hb1))⟩⟩
      · have et : tailS op a = slebS a := by unfold tailS; rw [if_neg (by omega), if_neg (by omega), if_pos (by omega)]
        rw [et] at HT HZ2 z2 z3
        rw [h] at cf
        clear et ht h
        have ct := fun w => sleb_s a HA.1 HA.2 w
        have hA1 := HA.1
        have hA2 := HA.2
        generalize slebS a = T at *
        go_wp2_with (first | (go_at_call 85; (with_reducible refine (cf _).mono ?_); rintro e w' ⟨rfl, n, rfl⟩) | (go_at_call 87; (with_reducible refine (ct _).mono ?_); rintro e w1 ⟨rfl, hb1⟩))
        go_roundg k1
        case measure => omega
        case rel => exact ⟨i + 1, by omega, by rw [HS.out, HT.out]; rw [ByteArray.append_assoc], by rw [Int.natCast_add]; rfl, ⟨by rw [HS.out, HT.out]; exact HZ2.out⟩, ⟨by repeat (first | (with_reducible exact HB) | (with_reducible refine below_alloc ?_ _) | (with_reducible refine below_drew1 ?_) | (with_reducible refine pw_below_drewN ?_ _) | (with_reducible refine below_step ?_ hb1))⟩⟩
      · have et : tailS op a = OwnBytes.bytesM a 4 := by unfold tailS; rw [if_neg (by omega), if_neg (by omega), if_neg (by omega), if_pos h]
        rw [et] at HT HZ2 z2 z3
        rw [h] at cf
        clear et ht h
        have ct : ∀ w : World, Calls Try.prog 88 #[.int .u64 a, .int .i64 4] w fun e w' => e = .returned (.string (OwnBytes.bytesM a 4)) ∧ Below w.heap.size w w' := fun w => OwnBytes.bytes_s a 4 h1 (by omega) w
        generalize OwnBytes.bytesM a 4 = T at *
        go_wp2_with (first | (go_at_call 85; (with_reducible refine (cf _).mono ?_); rintro e w' ⟨rfl, n, rfl⟩) | (go_at_call 88; (with_reducible refine (ct _).mono ?_); rintro e w1 ⟨rfl, hb1⟩))
        go_roundg k1
        case measure => omega
        case rel => exact ⟨i + 1, by omega, by rw [HS.out, HT.out]; rw [ByteArray.append_assoc], by rw [Int.natCast_add]; rfl, ⟨by rw [HS.out, HT.out]; exact HZ2.out⟩, ⟨by repeat (first | (with_reducible exact HB) | (with_reducible refine below_alloc ?_ _) | (with_reducible refine below_drew1 ?_) | (with_reducible refine pw_below_drewN ?_ _) | (with_reducible refine below_step ?_ hb1))⟩⟩

set_option maxRecDepth 100000 in
set_option maxHeartbeats 8000000 in
theorem code_i (A : Option Addr) (c : Nat) (l : List (Int × Int)) (w : World) (hr : Kd.C kI w A l.length l) (hc : l.length ≤ c) (g : goodC l = true) (hw : ∀ p ∈ l, -9223372036854775808 ≤ p.2 ∧ p.2 < 9223372036854775808) : Calls Try.prog 27 #[.slice A l.length c] w fun e w' => e = .returned (.tuple #[.string (codeS l), .bool true]) ∧ Below w.heap.size w w' := by
  have HR := Aside0.mk hr
  have HG := Aside0.mk g
  have HW := Aside0.mk hw
  have hl := goodC_len g
  have cg := fun w hr => good_i A c l w hr hc (by omega)
  rw [g] at cg
  clear hr g hw
  go_enter Try.func27, Try.ntmps27
  go_wp2_with (go_at_call 62; (with_reducible refine (cg _ HR.out).mono ?_); rintro e w0 ⟨rfl, hb0⟩)
  clear cg
  go_loopg [4, 13] l.length (fun kq v4 v13 w' => ∃ i : Nat, i + kq = l.length ∧ Bs w w' v4 (bytesOf (codeS (l.take i))) ∧ v13 = .int .i64 i ∧ Aside0 ((codeS (l.take i)).size ≤ 11 * i))
  case atStart => exact ⟨0, by omega, Bs.lit hb0 [] (by simp), rfl, ⟨Nat.le_refl _⟩⟩
  case round =>
    obtain ⟨i, hi, HB, rfl, HZ⟩ := hrel
    obtain ⟨A4, c4, e4⟩ := HB.form
    subst e4
    have HN : Aside0 (some wr.heap.size ≠ (Value.slice A4 (bytesOf (codeS (l.take i))).length c4).ownBlock) := ⟨own_ne_new HB.own 0⟩
    cases gk with
    | zero =>
      obtain rfl : i = l.length := by omega
      rw [List.take_length] at HB ⊢
      have hd : decide ((l.length : Int) < (l.length : Int)) = false := decide_eq_false (by omega)
      have hcv := own_string (P := Try.prog) Try.underlying77 Try.underlying5 Try.underlying9 HB.own
      rw [strOfNums_bytesOf] at hcv
      go_wp2
      go_ret2
      exact ⟨rfl, HB.bel⟩
    | succ k1 =>
      have hil : i < l.length := by omega
      have hd : decide ((i : Int) < (l.length : Int)) = true := decide_eq_true (by omega)
      have HI := Aside0.mk (goodC_at HG.out i hil)
      obtain ⟨ad, e, hx0, hx1⟩ := at_ins HR.out i hil
      subst e
      replace hx0 := (HB.bel.cell (World.block_lt_of_cell? w _ hx0)).trans hx0
      replace hx1 := (HB.bel.cell (World.block_lt_of_cell? w _ hx1)).trans hx1
      have HS := Aside0.mk (codeS_snoc l i hil)
      have HA := HW.out l[i] (List.getElem_mem hil)
      have hz := HZ.out
      generalize codeS (l.take i) = s at *
      generalize l[i].1 = op at *
      generalize l[i].2 = a at *
      have ho := shape_op HI.out
      have eo : op % 256 = op := by omega
      have cf := fun w => form_i op w
      have ht := tailS_size HI.out HA
      have HT : Aside0 (insS op a = strOfNums [op] ++ tailS op a) := ⟨by unfold insS; rw [eo]⟩
      have HZ2 : Aside0 ((s ++ (strOfNums [op] ++ tailS op a)).size ≤ 11 * (i + 1)) := ⟨by rw [ByteArray.size_append, ByteArray.size_append, Pl.strOfNums_size]; simp; omega⟩
      have hs1 : (bytesOf s).length ≤ 3000 := by rw [bytesOf_length]; omega
      have HO : Aside0 (bytesOf (strOfNums [op]) = [op]) := ⟨bytesOf_strOfNums [op] (by simp; omega)⟩
      clear eo hz HZ
      rcases goodI_says HI.out with h | ⟨h, h1, h2⟩ | ⟨h, h1, h2⟩ | ⟨h, h1, h2⟩ | h | h | ⟨h, h1, h2⟩
      · have et : tailS op a = ⟨#[]⟩ := by unfold tailS; rw [if_neg (by omega), if_neg (by omega), if_neg (by omega), if_neg (by omega)]
        rw [et] at HT HZ2 ht
        rw [h, show (0 : Int) + 1 = 1 by decide] at cf
        clear et h
        go_wp2_with (first | (at_builtin; (fail_if_success (have _ := H1)); refine app_litg (w0 := w) rfl _ _ rfl (.slice A4 (bytesOf s).length c4) _ [_] rfl _ rfl (by simp) (HB.alloc _) (by simp only [List.length_cons, List.length_nil]; omega) ?_; intro v1 w1 H1 hg; have q0 : w1.cell? ⟨wr.heap.size, 0, none⟩ = some (.int .i64 op) := (hg.cell (by go_simp) HN.out); have q1 : w1.cell? ⟨wr.heap.size, 1, none⟩ = some (.int .i64 a) := (hg.cell (by go_simp) HN.out); clear hg) | (go_at_call 63; (with_reducible refine (cf _).mono ?_); rintro e w2 ⟨rfl, n, rfl⟩))
        go_roundg k1
        case measure => omega
        case rel => exact ⟨i + 1, by omega, by rw [HS.out, HT.out, bytesOf_append, bytesOf_append, HO.out]; simpa [bytesOf] using H1.drewN n, by rw [Int.natCast_add]; rfl, ⟨by rw [HS.out, HT.out]; exact HZ2.out⟩⟩
      · have et : tailS op a = strOfNums [a] := by unfold tailS; rw [if_pos h, show a % 256 = a by omega]
        rw [et] at HT HZ2 ht
        rw [h, show (1 : Int) + 1 = 2 by decide] at cf
        clear et h
        go_wp2_with (first | (at_builtin; (fail_if_success (have _ := H1)); refine app_litg (w0 := w) rfl _ _ rfl (.slice A4 (bytesOf s).length c4) _ [_] rfl _ rfl (by simp) (HB.alloc _) (by simp only [List.length_cons, List.length_nil]; omega) ?_; intro v1 w1 H1 hg; have q0 : w1.cell? ⟨wr.heap.size, 0, none⟩ = some (.int .i64 op) := (hg.cell (by go_simp) HN.out); have q1 : w1.cell? ⟨wr.heap.size, 1, none⟩ = some (.int .i64 a) := (hg.cell (by go_simp) HN.out); clear hg) | (go_at_call 63; (with_reducible refine (cf _).mono ?_); rintro e w2 ⟨rfl, n, rfl⟩) | (at_builtin; have _ := H1; refine app_litg (w0 := w) rfl _ _ rfl v1 _ [_] rfl _ rfl (by simp) (H1.drewN n) (by simp only [List.length_cons, List.length_nil, List.length_append]; omega) ?_; intro v4 w4 H4 _))
        go_roundg k1
        case measure => omega
        case rel => exact ⟨i + 1, by omega, by rw [HS.out, HT.out, bytesOf_append, bytesOf_append, HO.out, bytesOf_strOfNums [a] (by simp; omega), ← List.append_assoc]; exact H4, by rw [Int.natCast_add]; rfl, ⟨by rw [HS.out, HT.out]; exact HZ2.out⟩⟩
      · have et : tailS op a = ulebS a := by unfold tailS; rw [if_neg (by omega), if_pos (by omega)]
        rw [et] at HT HZ2 ht
        rw [h, show (2 : Int) + 1 = 3 by decide] at cf
        clear et h
        have ct := fun w => uleb_i a h1 (by omega) w
        generalize ulebS a = T at *
        go_wp2_with (first | (at_builtin; (fail_if_success (have _ := H1)); refine app_litg (w0 := w) rfl _ _ rfl (.slice A4 (bytesOf s).length c4) _ [_] rfl _ rfl (by simp) (HB.alloc _) (by simp only [List.length_cons, List.length_nil]; omega) ?_; intro v1 w1 H1 hg; have q0 : w1.cell? ⟨wr.heap.size, 0, none⟩ = some (.int .i64 op) := (hg.cell (by go_simp) HN.out); have q1 : w1.cell? ⟨wr.heap.size, 1, none⟩ = some (.int .i64 a) := (hg.cell (by go_simp) HN.out); clear hg) | (go_at_call 63; (with_reducible refine (cf _).mono ?_); rintro e w2 ⟨rfl, n, rfl⟩) | (go_at_call 64; (with_reducible refine (ct _).mono ?_); rintro e w3 ⟨rfl, hb3⟩) | (at_builtin; have _ := H1; refine app_str (w0 := w) rfl _ _ rfl v1 _ T rfl rfl ((H1.drewN n).below hb3) (by simp only [List.length_cons, List.length_nil, List.length_append]; omega) ?_; intro v4 w4 H4))
        go_roundg k1
        case measure => omega
        case rel => exact ⟨i + 1, by omega, by rw [HS.out, HT.out, bytesOf_append, bytesOf_append, HO.out, ← List.append_assoc]; exact H4, by rw [Int.natCast_add]; rfl, ⟨by rw [HS.out, HT.out]; exact HZ2.out⟩⟩
      · have et : tailS op a = ulebS a := by unfold tailS; rw [if_neg (by omega), if_pos (by omega)]
        rw [et] at HT HZ2 ht
        rw [h, show (3 : Int) + 1 = 4 by decide] at cf
        clear et h
        have ct := fun w => uleb_i a h1 (by omega) w
        generalize ulebS a = T at *
        go_wp2_with (first | (at_builtin; (fail_if_success (have _ := H1)); refine app_litg (w0 := w) rfl _ _ rfl (.slice A4 (bytesOf s).length c4) _ [_] rfl _ rfl (by simp) (HB.alloc _) (by simp only [List.length_cons, List.length_nil]; omega) ?_; intro v1 w1 H1 hg; have q0 : w1.cell? ⟨wr.heap.size, 0, none⟩ = some (.int .i64 op) := (hg.cell (by go_simp) HN.out); have q1 : w1.cell? ⟨wr.heap.size, 1, none⟩ = some (.int .i64 a) := (hg.cell (by go_simp) HN.out); clear hg) | (go_at_call 63; (with_reducible refine (cf _).mono ?_); rintro e w2 ⟨rfl, n, rfl⟩) | (go_at_call 64; (with_reducible refine (ct _).mono ?_); rintro e w3 ⟨rfl, hb3⟩) | (at_builtin; have _ := H1; refine app_str (w0 := w) rfl _ _ rfl v1 _ T rfl rfl ((H1.drewN n).below hb3) (by simp only [List.length_cons, List.length_nil, List.length_append]; omega) ?_; intro v4 w4 H4))
        go_roundg k1
        case measure => omega
        case rel => exact ⟨i + 1, by omega, by rw [HS.out, HT.out, bytesOf_append, bytesOf_append, HO.out, ← List.append_assoc]; exact H4, by rw [Int.natCast_add]; rfl, ⟨by rw [HS.out, HT.out]; exact HZ2.out⟩⟩
      · have et : tailS op a = slebS a := by unfold tailS; rw [if_neg (by omega), if_neg (by omega), if_pos (by omega)]
        rw [et] at HT HZ2 ht
        rw [h, show (4 : Int) + 1 = 5 by decide] at cf
        clear et h
        have ct := fun w => sleb_i a HA.1 HA.2 w
        have hA1 := HA.1
        have hA2 := HA.2
        generalize slebS a = T at *
        go_wp2_with (first | (at_builtin; (fail_if_success (have _ := H1)); refine app_litg (w0 := w) rfl _ _ rfl (.slice A4 (bytesOf s).length c4) _ [_] rfl _ rfl (by simp) (HB.alloc _) (by simp only [List.length_cons, List.length_nil]; omega) ?_; intro v1 w1 H1 hg; have q0 : w1.cell? ⟨wr.heap.size, 0, none⟩ = some (.int .i64 op) := (hg.cell (by go_simp) HN.out); have q1 : w1.cell? ⟨wr.heap.size, 1, none⟩ = some (.int .i64 a) := (hg.cell (by go_simp) HN.out); clear hg) | (go_at_call 63; (with_reducible refine (cf _).mono ?_); rintro e w2 ⟨rfl, n, rfl⟩) | (go_at_call 65; (with_reducible refine (ct _).mono ?_); rintro e w3 ⟨rfl, hb3⟩) | (at_builtin; have _ := H1; refine app_str (w0 := w) rfl _ _ rfl v1 _ T rfl rfl ((H1.drewN n).below hb3) (by simp only [List.length_cons, List.length_nil, List.length_append]; omega) ?_; intro v4 w4 H4))
        go_roundg k1
        case measure => omega
        case rel => exact ⟨i + 1, by omega, by rw [HS.out, HT.out, bytesOf_append, bytesOf_append, HO.out, ← List.append_assoc]; exact H4, by rw [Int.natCast_add]; rfl, ⟨by rw [HS.out, HT.out]; exact HZ2.out⟩⟩
      · have et : tailS op a = slebS a := by unfold tailS; rw [if_neg (by omega), if_neg (by omega), if_pos (by omega)]
        rw [et] at HT HZ2 ht
        rw [h, show (5 : Int) + 1 = 6 by decide] at cf
        clear et h
        have ct := fun w => sleb_i a HA.1 HA.2 w
        have hA1 := HA.1
        have hA2 := HA.2
        generalize slebS a = T at *
        go_wp2_with (first | (at_builtin; (fail_if_success (have _ := H1)); refine app_litg (w0 := w) rfl _ _ rfl (.slice A4 (bytesOf s).length c4) _ [_] rfl _ rfl (by simp) (HB.alloc _) (by simp only [List.length_cons, List.length_nil]; omega) ?_; intro v1 w1 H1 hg; have q0 : w1.cell? ⟨wr.heap.size, 0, none⟩ = some (.int .i64 op) := (hg.cell (by go_simp) HN.out); have q1 : w1.cell? ⟨wr.heap.size, 1, none⟩ = some (.int .i64 a) := (hg.cell (by go_simp) HN.out); clear hg) | (go_at_call 63; (with_reducible refine (cf _).mono ?_); rintro e w2 ⟨rfl, n, rfl⟩) | (go_at_call 65; (with_reducible refine (ct _).mono ?_); rintro e w3 ⟨rfl, hb3⟩) | (at_builtin; have _ := H1; refine app_str (w0 := w) rfl _ _ rfl v1 _ T rfl rfl ((H1.drewN n).below hb3) (by simp only [List.length_cons, List.length_nil, List.length_append]; omega) ?_; intro v4 w4 H4))
        go_roundg k1
        case measure => omega
        case rel => exact ⟨i + 1, by omega, by rw [HS.out, HT.out, bytesOf_append, bytesOf_append, HO.out, ← List.append_assoc]; exact H4, by rw [Int.natCast_add]; rfl, ⟨by rw [HS.out, HT.out]; exact HZ2.out⟩⟩
      · have et : tailS op a = OwnBytes.bytesM a 4 := by unfold tailS; rw [if_neg (by omega), if_neg (by omega), if_neg (by omega), if_pos h]
        rw [et] at HT HZ2 ht
        rw [h, show (6 : Int) + 1 = 7 by decide] at cf
        clear et h
        have ct : ∀ w : World, Calls Try.prog 66 #[.int .u64 a, .int .i64 4] w fun e w' => e = .returned (.string (OwnBytes.bytesM a 4)) ∧ Below w.heap.size w w' := fun w => OwnBytes.bytes_i a 4 h1 (by omega) w
        generalize OwnBytes.bytesM a 4 = T at *
        go_wp2_with (first | (at_builtin; (fail_if_success (have _ := H1)); refine app_litg (w0 := w) rfl _ _ rfl (.slice A4 (bytesOf s).length c4) _ [_] rfl _ rfl (by simp) (HB.alloc _) (by simp only [List.length_cons, List.length_nil]; omega) ?_; intro v1 w1 H1 hg; have q0 : w1.cell? ⟨wr.heap.size, 0, none⟩ = some (.int .i64 op) := (hg.cell (by go_simp) HN.out); have q1 : w1.cell? ⟨wr.heap.size, 1, none⟩ = some (.int .i64 a) := (hg.cell (by go_simp) HN.out); clear hg) | (go_at_call 63; (with_reducible refine (cf _).mono ?_); rintro e w2 ⟨rfl, n, rfl⟩) | (go_at_call 66; (with_reducible refine (ct _).mono ?_); rintro e w3 ⟨rfl, hb3⟩) | (at_builtin; have _ := H1; refine app_str (w0 := w) rfl _ _ rfl v1 _ T rfl rfl ((H1.drewN n).below hb3) (by simp only [List.length_cons, List.length_nil, List.length_append]; omega) ?_; intro v4 w4 H4))
        go_roundg k1
        case measure => omega
        case rel => exact ⟨i + 1, by omega, by rw [HS.out, HT.out, bytesOf_append, bytesOf_append, HO.out, ← List.append_assoc]; exact H4, by rw [Int.natCast_add]; rfl, ⟨by rw [HS.out, HT.out]; exact HZ2.out⟩⟩

def codeM (l : List (Int × Int)) : ByteArray × Bool := if goodC l = true then (codeS l, true) else (⟨#[]⟩, false)
theorem spec_CodeBytes (A : Option Addr) (c : Nat) (l : List (Int × Int)) (w : World) (hr : Kd.C kI w A l.length l) (hc : l.length ≤ c) (hl : l.length ≤ 1048576) (hw : ∀ p ∈ l, -9223372036854775808 ≤ p.2 ∧ p.2 < 9223372036854775808) : Calls Try.prog 26 #[.slice A l.length c] w fun e w' => e = .returned (.tuple #[.string (codeM l).1, .bool (codeM l).2]) ∧ Below w.heap.size w w' := by
  have HR := Aside0.mk hr
  have cg := fun w hr => good_s A c l w hr hc hl
  unfold codeM
  by_cases g : goodC l = true
  · rw [if_pos g]
    have cb := fun w hr => bytes_code A c l w hr hc g hw
    rw [g] at cg
    clear hr g
    go_enter Try.func26, Try.ntmps26
    go_wp2_with fail
    refine (cg _ HR.out).mono ?_
    rintro e w1 ⟨rfl, B1⟩
    go_wp2_with fail
    refine (cb _ (Kd.C_below HR.out B1)).mono ?_
    rintro e w2 ⟨rfl, B2⟩
    go_wp2_with fail
    go_ret2
    exact ⟨rfl, below_step B1 B2⟩
  · rw [if_neg g]
    rw [Bool.eq_false_iff.2 g] at cg
    clear hr g
    go_enter Try.func26, Try.ntmps26
    go_wp2_with fail
    refine (cg _ HR.out).mono ?_
    rintro e w1 ⟨rfl, B1⟩
    go_wp2_with fail
    go_ret2
    exact ⟨rfl, B1⟩
theorem impl_CodeBytes (A : Option Addr) (c : Nat) (l : List (Int × Int)) (w : World) (hr : Kd.C kI w A l.length l) (hc : l.length ≤ c) (hl : l.length ≤ 1048576) (hw : ∀ p ∈ l, -9223372036854775808 ≤ p.2 ∧ p.2 < 9223372036854775808) : Calls Try.prog 27 #[.slice A l.length c] w fun e w' => e = .returned (.tuple #[.string (codeM l).1, .bool (codeM l).2]) ∧ Below w.heap.size w w' := by
  have HR := Aside0.mk hr
  have cg := fun w hr => good_i A c l w hr hc hl
  unfold codeM
  by_cases g : goodC l = true
  · rw [if_pos g]
    exact code_i A c l w hr hc g hw
  · rw [if_neg g]
    rw [Bool.eq_false_iff.2 g] at cg
    clear hr g
    go_enter Try.func27, Try.ntmps27
    go_wp2_with fail
    refine (cg _ HR.out).mono ?_
    rintro e w1 ⟨rfl, B1⟩
    go_wp2_with fail
    go_ret2
    exact ⟨rfl, B1⟩
set_option maxRecDepth 100000 in
set_option maxHeartbeats 4000000 in
theorem law_CodeBytes (A : Option Addr) (c : Nat) (l : List (Int × Int)) (w : World) (hr : Kd.C kI w A l.length l) (hc : l.length ≤ c) (hm : l.length ≤ 9223372036854775807) (hw : ∀ p ∈ l, -9223372036854775808 ≤ p.2 ∧ p.2 < 9223372036854775808) : Calls Try.prog 7 #[.slice A l.length c] w fun e w' => e = .returned (.bool true) ∧ Below w.heap.size w w' := by
  have HR := Aside0.mk hr
  have HW := Aside0.mk hw
  have cz := fun w hr => szIns A c l 1048576 w hr hc
  clear hr hw
  by_cases z : leftM l.length 1048576 < 0
  · generalize leftM l.length 1048576 = q at *
    go_enter Try.func7, Try.ntmps7
    go_wp2_with (go_at_call 21; (with_reducible refine (cz _ HR.out).mono ?_); rintro e w' ⟨rfl, n, rfl⟩)
    go_ret
    exact ⟨rfl, pw_below_drewN (Below.refl _ _) _⟩
  · have hl : l.length ≤ 1048576 := by
      unfold leftM at z
      split at z
      · omega
      · rename_i h; unfold wrap64 at h; omega
    generalize leftM l.length 1048576 = q at *
    go_enter Try.func7, Try.ntmps7
    go_wp2_with (go_at_call 21; (with_reducible refine (cz _ HR.out).mono ?_); rintro e w' ⟨rfl, n, rfl⟩)
    have B0 : Below w.heap.size w (w.drewN n) := pw_below_drewN (Below.refl _ _) _
    generalize w.drewN n = w0 at *
    clear cz
    refine (toIns A c l _ (Kd.C_below HR.out B0) hc hl).mono ?_
    rintro e w1 ⟨A1, c1, rfl, k1, C1, B1⟩
    go_wp2_with fail
    refine (spec_CodeBytes A1 c1 l _ C1 k1 hl HW.out).mono ?_
    rintro e w2 ⟨rfl, B2⟩
    have B := below_step B0 (below_step B1 B2)
    clear B1 B2 C1 B0
    go_wp2_with fail
    refine (toIns A c l _ (Kd.C_below HR.out B) hc hl).mono ?_
    rintro e w3 ⟨A3, c3, rfl, k3, C3, B3⟩
    replace B := below_step B B3
    clear B3
    go_wp2_with fail
    refine (impl_CodeBytes A3 c3 l _ C3 k3 hl HW.out).mono ?_
    rintro e w4 ⟨rfl, B4⟩
    have D3 := Aside0.mk (Kd.C_below C3 B4)
    replace B := below_step B B4
    clear B4 C3
    go_wp2_with fail
    refine (toIns A c l _ (Kd.C_below HR.out B) hc hl).mono ?_
    rintro e w5 ⟨A5, c5, rfl, k5, C5, B5⟩
    replace B := below_step B B5
    go_wp2_with fail
    refine (eqIns A3 c3 A5 c5 l _ (Kd.C_below D3.out B5) k3 C5 k5 hl).mono ?_
    rintro e w6 ⟨rfl, B6⟩
    replace B := below_step B B6
    clear B5 B6 C5
    go_wp2
    go_ret
    exact ⟨rfl, B⟩

end Go.Proofs.Ytfncjcnlndoelaa.OwnCodeLaw
