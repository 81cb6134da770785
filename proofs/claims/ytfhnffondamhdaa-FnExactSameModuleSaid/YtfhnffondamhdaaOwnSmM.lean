/- Equality of two rows, read element by element (the reference's and slices.Equal): walks of our own. Equality of two functions, the program's: a walk of our own. slices.EqualFunc over the program's equality of two functions: a walk of our own. Equality of two functions, the reference's: a walk of our own. SameModule, the program's: a walk of our own. SameModule, the reference's: a walk of our own. SameModule: the law, by a walk of our own. -/
import Derived.Test.YtfhnffondamhdaaOwnSmB
import Derived.Deep.DeepCutAuto
import Derived.Deep.RegionHeldLaw
namespace Go.Proofs.Ytfhnffondamhdaa.OwnSm
open Go Go.RowKit Go.Proofs.YtfhnffondamhdaaW.PrintWords Go.Proofs.YtfhnffondamhdaaW.PrintLast Go.Proofs.YtfhnffondamhdaaW.PrintMore Go.Proofs.Ytfhnffondamhdaa.OwnBs Go.Proofs.Ytfhnffondamhdaa.OwnKp Go.Proofs.Ytfhnffondamhdaa.OwnCode Go.Proofs.Ytfhnffondamhdaa.OwnSt Go.Proofs.Ytfhnffondamhdaa.OwnFn Go.Proofs.Ytfhnffondamhdaa.OwnFs Go.Proofs.Ytfhnffondamhdaa.OwnMd Go.Proofs.Ytfhnffondamhdaa.OwnGs
set_option linter.unusedVariables false
set_option linter.unusedSimpArgs false
theorem at_int {w : World} {A : Option Addr} {n : Nat} {l : List Int} (h : Kd.C (Kd.int .i64) w A n l) (i : Nat) (hi : i < l.length) : ∃ ad, A = some ad ∧ w.cell? (ad.add i) = some (.int .i64 l[i]) := by
  obtain ⟨h1, h2, h3⟩ := h
  obtain ⟨ad, e, h4⟩ := h3 (by omega)
  obtain ⟨c, hc, hk, hu⟩ := h4 i l[i] (List.getElem?_eq_getElem hi)
  have e0 : c = [.int .i64 l[i]] := hk
  subst e0
  refine ⟨ad, e, ?_⟩
  have h5 : w.cell? (ad.add (i * 1)) = some (.int .i64 l[i]) := hu 0 _ rfl
  rwa [Nat.mul_one] at h5
theorem drew2 (w : World) (a b : Nat) : ∃ n, (w.drewN a).drewN b = w.drewN n := ⟨a + b, World.drewN_drewN w a b⟩
/-- Six cells of a block, a boxed module's. -/
structure M6 (b : Nat) (w : World) (Af : Option Addr) (cf n : Nat) (Ag : Option Addr) (cg k : Nat) (mem : Bool) (pages most start : Int) : Prop where
  c0 : w.cell? ⟨b, 0, none⟩ = some (.slice Af n cf)
  c1 : w.cell? ⟨b, 1, none⟩ = some (.slice Ag k cg)
  c2 : w.cell? ⟨b, 2, none⟩ = some (.bool mem)
  c3 : w.cell? ⟨b, 3, none⟩ = some (.int .i64 pages)
  c4 : w.cell? ⟨b, 4, none⟩ = some (.int .i64 most)
  c5 : w.cell? ⟨b, 5, none⟩ = some (.int .i64 start)
  lt : b < w.heap.size
theorem M6.below {b : Nat} {w w1 : World} {Af cf n Ag cg k mem pages most start} (h : M6 b w Af cf n Ag cg k mem pages most start) (hb : Below w.heap.size w w1) : M6 b w1 Af cf n Ag cg k mem pages most start :=
  ⟨(hb.cell (p := ⟨_, _, none⟩) h.lt).trans h.c0, (hb.cell (p := ⟨_, _, none⟩) h.lt).trans h.c1, (hb.cell (p := ⟨_, _, none⟩) h.lt).trans h.c2, (hb.cell (p := ⟨_, _, none⟩) h.lt).trans h.c3, (hb.cell (p := ⟨_, _, none⟩) h.lt).trans h.c4, (hb.cell (p := ⟨_, _, none⟩) h.lt).trans h.c5, Nat.lt_of_lt_of_le h.lt hb.size⟩
theorem eq_take {α : Type} [DecidableEq α] {l m : List α} (h : l.length = m.length) (hall : ∀ j, (h1 : j < l.length) → (h2 : j < m.length) → l[j] = m[j]) : l = m := List.ext_getElem h hall
theorem ne_at {α : Type} {l m : List α} (i : Nat) (h1 : i < l.length) (h2 : i < m.length) (h : l[i] ≠ m[i]) : l ≠ m := by rintro rfl; exact h rfl
set_option maxRecDepth 100000 in
set_option maxHeartbeats 8000000 in
theorem ints_s (A : Option Addr) (c : Nat) (l : List (Int)) (A' : Option Addr) (c' : Nat) (m : List (Int)) (w : World) (hr : Kd.C (Kd.int .i64) w A l.length l) (hc : l.length ≤ c) (hr' : Kd.C (Kd.int .i64) w A' m.length m) (hc' : m.length ≤ c') (hl : l.length ≤ 1048576) (hm : m.length ≤ 1048576) : Calls Try.prog 107 #[.slice A l.length c, .slice A' m.length c'] w fun e w' => e = .returned (.bool (decide (l = m))) ∧ ∃ n, w' = w.drewN n := by
  have HR := Aside0.mk hr
  have HR' := Aside0.mk hr'
  generalize hV : decide (l = m) = V
  have HV := Aside0.mk hV
  clear hr hr' hV
  by_cases z : l.length = m.length
  rotate_left
  · obtain rfl : V = false := by rw [← HV.out]; exact decide_eq_false (fun e => z (by rw [e]))
    have d1 : ((l.length : Int) != (m.length : Int)) = true := bne_iff_ne.2 (by omega)
    have d2 : ((l.length : Int) == (m.length : Int)) = false := beq_eq_false_iff_ne.2 (by omega)
    clear HR HR'
    generalize l.length = a at *
    generalize m.length = b at *
    go_enter Try.func107, Try.ntmps107
    go_wp2
    go_ret
    exact ⟨rfl, 0, rfl⟩
  have d1 : ((l.length : Int) != (m.length : Int)) = false := bne_eq_false_iff_eq.2 (by omega)
  have d2 : ((l.length : Int) == (m.length : Int)) = true := beq_iff_eq.2 (by omega)
  have HZ := Aside0.mk z
  clear z
  generalize ha : l.length = a at *
  generalize hb : m.length = b at *
  have HA := Aside0.mk ha
  have HB := Aside0.mk hb
  clear ha hb
  go_enter Try.func107, Try.ntmps107
  go_wp2
  clear d1 d2
  go_loopg [13] a (fun kq v13 w' => ∃ i n : Nat, i + kq = a ∧ v13 = .int .i64 i ∧ w' = w.drewN n ∧ Aside0 (∀ j, (h1 : j < l.length) → (h2 : j < m.length) → j < i → l[j] = m[j]))
  case atStart => exact ⟨0, 0, by omega, rfl, rfl, ⟨fun j _ _ h => absurd h (Nat.not_lt_zero _)⟩⟩
  case round =>
    obtain ⟨i, n, hi, rfl, rfl, HE⟩ := hrel
    cases gk with
    | zero =>
      obtain rfl : i = a := by omega
      have hd : decide ((i : Int) < (i : Int)) = false := decide_eq_false (by omega)
      obtain rfl : V = true := by rw [← HV.out]; exact decide_eq_true (eq_take (by rw [HA.out, HB.out]; exact HZ.out) (fun j h1 h2 => HE.out j h1 h2 (by rw [← HA.out]; exact h1)))
      go_wp2
      go_ret
      exact ⟨rfl, _, rfl⟩
    | succ k1 =>
      have hil : i < l.length := by rw [HA.out]; omega
      have him : i < m.length := by rw [HB.out]; have := HZ.out; omega
      have hia : (i : Int) < (a : Int) := by omega
      have hib : (i : Int) < (b : Int) := by have := HZ.out; omega
      have hd : decide ((i : Int) < (a : Int)) = true := decide_eq_true (by omega)
      obtain ⟨ad, e1, hx⟩ := at_int HR.out i hil
      obtain ⟨ad', e2, hy⟩ := at_int HR'.out i him
      subst e1; subst e2
      have HN : Aside0 (l[i] ≠ m[i] → V = false) := ⟨fun h => by rw [← HV.out]; exact decide_eq_false (ne_at i hil him h)⟩
      have HY : Aside0 (l[i] = m[i] → ∀ j, (h1 : j < l.length) → (h2 : j < m.length) → j < i + 1 → l[j] = m[j]) := ⟨fun h j h1 h2 hj => by
        by_cases e : j = i
        · subst e; exact h
        · exact HE.out j h1 h2 (by omega)⟩
      clear HE
      generalize l[i] = x at *
      generalize m[i] = y at *
      have q1 : (0 : Int) ≤ (i : Int) := by omega
      have ew : IntKind.i64.wrap ((i : Int) + 1) = (i : Int) + 1 := by rw [IntKind.wrap_i64]; omega
      by_cases t : x = y
      · subst t
        clear HN
        have HY2 := Aside0.mk (HY.out rfl)
        clear HY
        go_wp2
        go_quiet (fail)
        all_goals
          go_wp2
          go_roundg k1
          case measure => omega
          case rel =>
            exact ⟨i + 1, n + nq, by omega, by rw [Int.natCast_add]; rfl, (by first | rfl | exact World.drewN_drewN _ _ _), HY2⟩
      · obtain rfl : V = false := HN.out t
        clear HY HN
        have t1t : (x == y) = false := beq_eq_false_iff_ne.2 t
        have t2t : (x != y) = true := bne_iff_ne.2 t
        go_wp2
        go_quiet (fail)
        all_goals
          go_wp2
          go_ret
          exact ⟨rfl, drew2 w n nq⟩
set_option maxRecDepth 100000 in
set_option maxHeartbeats 8000000 in
theorem ints_i (A : Option Addr) (c : Nat) (l : List (Int)) (A' : Option Addr) (c' : Nat) (m : List (Int)) (w : World) (hr : Kd.C (Kd.int .i64) w A l.length l) (hc : l.length ≤ c) (hr' : Kd.C (Kd.int .i64) w A' m.length m) (hc' : m.length ≤ c') (hl : l.length ≤ 1048576) (hm : m.length ≤ 1048576) : Calls Try.prog 108 #[.slice A l.length c, .slice A' m.length c'] w fun e w' => e = .returned (.bool (decide (l = m))) ∧ ∃ n, w' = w.drewN n := by
  have HR := Aside0.mk hr
  have HR' := Aside0.mk hr'
  generalize hV : decide (l = m) = V
  have HV := Aside0.mk hV
  clear hr hr' hV
  by_cases z : l.length = m.length
  rotate_left
  · obtain rfl : V = false := by rw [← HV.out]; exact decide_eq_false (fun e => z (by rw [e]))
    have d1 : ((l.length : Int) != (m.length : Int)) = true := bne_iff_ne.2 (by omega)
    have d2 : ((l.length : Int) == (m.length : Int)) = false := beq_eq_false_iff_ne.2 (by omega)
    clear HR HR'
    generalize l.length = a at *
    generalize m.length = b at *
    go_enter Try.func108, Try.ntmps108
    go_wp2
    go_ret
    exact ⟨rfl, 0, rfl⟩
  have d1 : ((l.length : Int) != (m.length : Int)) = false := bne_eq_false_iff_eq.2 (by omega)
  have d2 : ((l.length : Int) == (m.length : Int)) = true := beq_iff_eq.2 (by omega)
  have HZ := Aside0.mk z
  clear z
  generalize ha : l.length = a at *
  generalize hb : m.length = b at *
  have HA := Aside0.mk ha
  have HB := Aside0.mk hb
  clear ha hb
  go_enter Try.func108, Try.ntmps108
  go_wp2
  clear d1 d2
  go_loopg [13] a (fun kq v13 w' => ∃ i n : Nat, i + kq = a ∧ v13 = .int .i64 i ∧ w' = w.drewN n ∧ Aside0 (∀ j, (h1 : j < l.length) → (h2 : j < m.length) → j < i → l[j] = m[j]))
  case atStart => exact ⟨0, 0, by omega, rfl, rfl, ⟨fun j _ _ h => absurd h (Nat.not_lt_zero _)⟩⟩
  case round =>
    obtain ⟨i, n, hi, rfl, rfl, HE⟩ := hrel
    cases gk with
    | zero =>
      obtain rfl : i = a := by omega
      have hd : decide ((i : Int) < (i : Int)) = false := decide_eq_false (by omega)
      obtain rfl : V = true := by rw [← HV.out]; exact decide_eq_true (eq_take (by rw [HA.out, HB.out]; exact HZ.out) (fun j h1 h2 => HE.out j h1 h2 (by rw [← HA.out]; exact h1)))
      go_wp2
      go_ret
      exact ⟨rfl, _, rfl⟩
    | succ k1 =>
      have hil : i < l.length := by rw [HA.out]; omega
      have him : i < m.length := by rw [HB.out]; have := HZ.out; omega
      have hia : (i : Int) < (a : Int) := by omega
      have hib : (i : Int) < (b : Int) := by have := HZ.out; omega
      have hd : decide ((i : Int) < (a : Int)) = true := decide_eq_true (by omega)
      obtain ⟨ad, e1, hx⟩ := at_int HR.out i hil
      obtain ⟨ad', e2, hy⟩ := at_int HR'.out i him
      subst e1; subst e2
      have HN : Aside0 (l[i] ≠ m[i] → V = false) := ⟨fun h => by rw [← HV.out]; exact decide_eq_false (ne_at i hil him h)⟩
      have HY : Aside0 (l[i] = m[i] → ∀ j, (h1 : j < l.length) → (h2 : j < m.length) → j < i + 1 → l[j] = m[j]) := ⟨fun h j h1 h2 hj => by
        by_cases e : j = i
        · subst e; exact h
        · exact HE.out j h1 h2 (by omega)⟩
      clear HE
      generalize l[i] = x at *
      generalize m[i] = y at *
      have q1 : (0 : Int) ≤ (i : Int) := by omega
      have ew : IntKind.i64.wrap ((i : Int) + 1) = (i : Int) + 1 := by rw [IntKind.wrap_i64]; omega
      by_cases t : x = y
      · subst t
        clear HN
        have HY2 := Aside0.mk (HY.out rfl)
        clear HY
        go_wp2
        go_quiet (fail)
        all_goals
          go_wp2
          go_roundg k1
          case measure => omega
          case rel =>
            exact ⟨i + 1, n + nq, by omega, by rw [Int.natCast_add]; rfl, (by first | rfl | exact World.drewN_drewN _ _ _), HY2⟩
      · obtain rfl : V = false := HN.out t
        clear HY HN
        have t1t : (x == y) = false := beq_eq_false_iff_ne.2 t
        have t2t : (x != y) = true := bne_iff_ne.2 t
        go_wp2
        go_quiet (fail)
        all_goals
          go_wp2
          go_ret
          exact ⟨rfl, drew2 w n nq⟩
theorem at_ins {w : World} {A : Option Addr} {n : Nat} {l : List (Int × Int)} (h : Kd.C kI w A n l) (i : Nat) (hi : i < l.length) : ∃ ad, A = some ad ∧ w.cell? (ad.add (i * 2)) = some (.int .i64 l[i].1) ∧ w.cell? ⟨(ad.add (i * 2)).block, (ad.add (i * 2)).off + 1, none⟩ = some (.int .i64 l[i].2) := by
  obtain ⟨h1, h2, h3⟩ := h
  obtain ⟨ad, e, h4⟩ := h3 (by omega)
  obtain ⟨c, hc, hk, hu⟩ := h4 i l[i] (List.getElem?_eq_getElem hi)
  obtain ⟨c0, c1, rfl, k0, k1⟩ := hk
  have e0 : c0 = [.int .i64 l[i].1] := k0
  have e1 : c1 = [.int .i64 l[i].2] := k1
  subst e0; subst e1
  refine ⟨ad, e, ?_, ?_⟩
  · exact hu 0 _ rfl
  · rw [← add_field ad (i * 2) 1 (by decide)]
    exact hu 1 _ rfl
set_option maxRecDepth 100000 in
set_option maxHeartbeats 8000000 in
theorem ins_i (A : Option Addr) (c : Nat) (l : List (Int × Int)) (A' : Option Addr) (c' : Nat) (m : List (Int × Int)) (w : World) (hr : Kd.C kI w A l.length l) (hc : l.length ≤ c) (hr' : Kd.C kI w A' m.length m) (hc' : m.length ≤ c') (hl : l.length ≤ 1048576) (hm : m.length ≤ 1048576) : Calls Try.prog 109 #[.slice A l.length c, .slice A' m.length c'] w fun e w' => e = .returned (.bool (decide (l = m))) ∧ ∃ n, w' = w.drewN n := by
  have HR := Aside0.mk hr
  have HR' := Aside0.mk hr'
  generalize hV : decide (l = m) = V
  have HV := Aside0.mk hV
  clear hr hr' hV
  by_cases z : l.length = m.length
  rotate_left
  · obtain rfl : V = false := by rw [← HV.out]; exact decide_eq_false (fun e => z (by rw [e]))
    have d1 : ((l.length : Int) != (m.length : Int)) = true := bne_iff_ne.2 (by omega)
    have d2 : ((l.length : Int) == (m.length : Int)) = false := beq_eq_false_iff_ne.2 (by omega)
    clear HR HR'
    generalize l.length = a at *
    generalize m.length = b at *
    go_enter Try.func109, Try.ntmps109
    go_wp2
    go_ret
    exact ⟨rfl, 0, rfl⟩
  have d1 : ((l.length : Int) != (m.length : Int)) = false := bne_eq_false_iff_eq.2 (by omega)
  have d2 : ((l.length : Int) == (m.length : Int)) = true := beq_iff_eq.2 (by omega)
  have HZ := Aside0.mk z
  clear z
  generalize ha : l.length = a at *
  generalize hb : m.length = b at *
  have HA := Aside0.mk ha
  have HB := Aside0.mk hb
  clear ha hb
  go_enter Try.func109, Try.ntmps109
  go_wp2
  clear d1 d2
  go_loopg [13] a (fun kq v13 w' => ∃ i n : Nat, i + kq = a ∧ v13 = .int .i64 i ∧ w' = w.drewN n ∧ Aside0 (∀ j, (h1 : j < l.length) → (h2 : j < m.length) → j < i → l[j] = m[j]))
  case atStart => exact ⟨0, 0, by omega, rfl, rfl, ⟨fun j _ _ h => absurd h (Nat.not_lt_zero _)⟩⟩
  case round =>
    obtain ⟨i, n, hi, rfl, rfl, HE⟩ := hrel
    cases gk with
    | zero =>
      obtain rfl : i = a := by omega
      have hd : decide ((i : Int) < (i : Int)) = false := decide_eq_false (by omega)
      obtain rfl : V = true := by rw [← HV.out]; exact decide_eq_true (eq_take (by rw [HA.out, HB.out]; exact HZ.out) (fun j h1 h2 => HE.out j h1 h2 (by rw [← HA.out]; exact h1)))
      go_wp2
      go_ret
      exact ⟨rfl, _, rfl⟩
    | succ k1 =>
      have hil : i < l.length := by rw [HA.out]; omega
      have him : i < m.length := by rw [HB.out]; have := HZ.out; omega
      have hia : (i : Int) < (a : Int) := by omega
      have hib : (i : Int) < (b : Int) := by have := HZ.out; omega
      have hd : decide ((i : Int) < (a : Int)) = true := decide_eq_true (by omega)
      obtain ⟨ad, e1, hx0, hx1⟩ := at_ins HR.out i hil
      obtain ⟨ad', e2, hy0, hy1⟩ := at_ins HR'.out i him
      subst e1; subst e2
      have HN : Aside0 (l[i] ≠ m[i] → V = false) := ⟨fun h => by rw [← HV.out]; exact decide_eq_false (ne_at i hil him h)⟩
      have HY : Aside0 (l[i] = m[i] → ∀ j, (h1 : j < l.length) → (h2 : j < m.length) → j < i + 1 → l[j] = m[j]) := ⟨fun h j h1 h2 hj => by
        by_cases e : j = i
        · subst e; exact h
        · exact HE.out j h1 h2 (by omega)⟩
      clear HE
      generalize l[i] = x at *
      generalize m[i] = y at *
      obtain ⟨x0, x1⟩ := x
      obtain ⟨y0, y1⟩ := y
      simp only at hx0 hx1 hy0 hy1
      have q1 : (0 : Int) ≤ (i : Int) := by omega
      have ew : IntKind.i64.wrap ((i : Int) + 1) = (i : Int) + 1 := by rw [IntKind.wrap_i64]; omega
      by_cases t : (x0, x1) = (y0, y1)
      · obtain ⟨rfl, rfl⟩ := Prod.mk.inj t
        clear HN
        have HY2 := Aside0.mk (HY.out rfl)
        clear HY
        go_wp2
        go_quiet (fail)
        all_goals
          go_wp2
          go_roundg k1
          case measure => omega
          case rel =>
            exact ⟨i + 1, n + nq, by omega, by rw [Int.natCast_add]; rfl, (by first | rfl | exact World.drewN_drewN _ _ _), HY2⟩
      · obtain rfl : V = false := HN.out t
        clear HY HN
        by_cases u : x0 = y0
        · subst u
          have u2 : x1 ≠ y1 := fun h => t (by rw [h])
          clear t
          have t1u2 : (x1 == y1) = false := beq_eq_false_iff_ne.2 u2
          have t2u2 : (x1 != y1) = true := bne_iff_ne.2 u2
          go_wp2
          go_quiet (fail)
          all_goals
            go_wp2
            go_ret
            exact ⟨rfl, drew2 w n nq⟩
        · clear t
          have t1u : (x0 == y0) = false := beq_eq_false_iff_ne.2 u
          have t2u : (x0 != y0) = true := bne_iff_ne.2 u
          go_wp2
          go_quiet (fail)
          all_goals
            go_wp2
            go_ret
            exact ⟨rfl, drew2 w n nq⟩
set_option maxRecDepth 100000 in
set_option maxHeartbeats 8000000 in
theorem glos_i (A : Option Addr) (c : Nat) (l : List (Glo)) (A' : Option Addr) (c' : Nat) (m : List (Glo)) (w : World) (hr : Kd.C kG w A l.length l) (hc : l.length ≤ c) (hr' : Kd.C kG w A' m.length m) (hc' : m.length ≤ c') (hl : l.length ≤ 1048576) (hm : m.length ≤ 1048576) : Calls Try.prog 78 #[.slice A l.length c, .slice A' m.length c'] w fun e w' => e = .returned (.bool (decide (l = m))) ∧ ∃ n, w' = w.drewN n := by
  have HR := Aside0.mk hr
  have HR' := Aside0.mk hr'
  generalize hV : decide (l = m) = V
  have HV := Aside0.mk hV
  clear hr hr' hV
  by_cases z : l.length = m.length
  rotate_left
  · obtain rfl : V = false := by rw [← HV.out]; exact decide_eq_false (fun e => z (by rw [e]))
    have d1 : ((l.length : Int) != (m.length : Int)) = true := bne_iff_ne.2 (by omega)
    have d2 : ((l.length : Int) == (m.length : Int)) = false := beq_eq_false_iff_ne.2 (by omega)
    clear HR HR'
    generalize l.length = a at *
    generalize m.length = b at *
    go_enter Try.func78, Try.ntmps78
    go_wp2
    go_ret
    exact ⟨rfl, 0, rfl⟩
  have d1 : ((l.length : Int) != (m.length : Int)) = false := bne_eq_false_iff_eq.2 (by omega)
  have d2 : ((l.length : Int) == (m.length : Int)) = true := beq_iff_eq.2 (by omega)
  have HZ := Aside0.mk z
  clear z
  generalize ha : l.length = a at *
  generalize hb : m.length = b at *
  have HA := Aside0.mk ha
  have HB := Aside0.mk hb
  clear ha hb
  go_enter Try.func78, Try.ntmps78
  go_wp2
  clear d1 d2
  go_loopg [13] a (fun kq v13 w' => ∃ i n : Nat, i + kq = a ∧ v13 = .int .i64 i ∧ w' = w.drewN n ∧ Aside0 (∀ j, (h1 : j < l.length) → (h2 : j < m.length) → j < i → l[j] = m[j]))
  case atStart => exact ⟨0, 0, by omega, rfl, rfl, ⟨fun j _ _ h => absurd h (Nat.not_lt_zero _)⟩⟩
  case round =>
    obtain ⟨i, n, hi, rfl, rfl, HE⟩ := hrel
    cases gk with
    | zero =>
      obtain rfl : i = a := by omega
      have hd : decide ((i : Int) < (i : Int)) = false := decide_eq_false (by omega)
      obtain rfl : V = true := by rw [← HV.out]; exact decide_eq_true (eq_take (by rw [HA.out, HB.out]; exact HZ.out) (fun j h1 h2 => HE.out j h1 h2 (by rw [← HA.out]; exact h1)))
      go_wp2
      go_ret
      exact ⟨rfl, _, rfl⟩
    | succ k1 =>
      have hil : i < l.length := by rw [HA.out]; omega
      have him : i < m.length := by rw [HB.out]; have := HZ.out; omega
      have hia : (i : Int) < (a : Int) := by omega
      have hib : (i : Int) < (b : Int) := by have := HZ.out; omega
      have hd : decide ((i : Int) < (a : Int)) = true := decide_eq_true (by omega)
      obtain ⟨ad, e1, hx0, hx1, hx2⟩ := at_glo HR.out i hil
      obtain ⟨ad', e2, hy0, hy1, hy2⟩ := at_glo HR'.out i him
      subst e1; subst e2
      have HN : Aside0 (l[i] ≠ m[i] → V = false) := ⟨fun h => by rw [← HV.out]; exact decide_eq_false (ne_at i hil him h)⟩
      have HY : Aside0 (l[i] = m[i] → ∀ j, (h1 : j < l.length) → (h2 : j < m.length) → j < i + 1 → l[j] = m[j]) := ⟨fun h j h1 h2 hj => by
        by_cases e : j = i
        · subst e; exact h
        · exact HE.out j h1 h2 (by omega)⟩
      clear HE
      generalize l[i] = x at *
      generalize m[i] = y at *
      obtain ⟨x0, x1, x2⟩ := x
      obtain ⟨y0, y1, y2⟩ := y
      simp only at hx0 hx1 hx2 hy0 hy1 hy2
      have q1 : (0 : Int) ≤ (i : Int) := by omega
      have ew : IntKind.i64.wrap ((i : Int) + 1) = (i : Int) + 1 := by rw [IntKind.wrap_i64]; omega
      by_cases t : (x0, x1, x2) = (y0, y1, y2)
      · obtain ⟨rfl, t2⟩ := Prod.mk.inj t
        obtain ⟨rfl, rfl⟩ := Prod.mk.inj t2
        clear HN
        have HY2 := Aside0.mk (HY.out rfl)
        clear HY
        go_wp2
        go_quiet (fail)
        all_goals
          go_wp2
          go_roundg k1
          case measure => omega
          case rel =>
            exact ⟨i + 1, n + nq, by omega, by rw [Int.natCast_add]; rfl, (by first | rfl | exact World.drewN_drewN _ _ _), HY2⟩
      · obtain rfl : V = false := HN.out t
        clear HY HN
        by_cases u : x0 = y0
        · subst u
          by_cases u1 : x1 = y1
          · subst u1
            have u2 : x2 ≠ y2 := fun h => t (by rw [h])
            clear t
            have t1u2 : (x2 == y2) = false := beq_eq_false_iff_ne.2 u2
            have t2u2 : (x2 != y2) = true := bne_iff_ne.2 u2
            go_wp2
            go_quiet (fail)
            all_goals
              go_wp2
              go_ret
              exact ⟨rfl, drew2 w n nq⟩
          · clear t
            have t1u1 : (x1 == y1) = false := beq_eq_false_iff_ne.2 u1
            have t2u1 : (x1 != y1) = true := bne_iff_ne.2 u1
            go_wp2
            go_quiet (fail)
            all_goals
              go_wp2
              go_ret
              exact ⟨rfl, drew2 w n nq⟩
        · clear t
          have t1u : (x0 == y0) = false := beq_eq_false_iff_ne.2 u
          have t2u : (x0 != y0) = true := bne_iff_ne.2 u
          go_wp2
          go_quiet (fail)
          all_goals
            go_wp2
            go_ret
            exact ⟨rfl, drew2 w n nq⟩
end Go.Proofs.Ytfhnffondamhdaa.OwnSm
namespace Go.Proofs.Ytfhnffondamhdaa.OwnSmF
open Go Go.RowKit Go.Proofs.YtfhnffondamhdaaW.PrintWords Go.Proofs.YtfhnffondamhdaaW.PrintLast Go.Proofs.YtfhnffondamhdaaW.PrintMore Go.Proofs.Ytfhnffondamhdaa.OwnBs Go.Proofs.Ytfhnffondamhdaa.OwnKp Go.Proofs.Ytfhnffondamhdaa.OwnCode Go.Proofs.Ytfhnffondamhdaa.OwnSt Go.Proofs.Ytfhnffondamhdaa.OwnFn Go.Proofs.Ytfhnffondamhdaa.OwnFs Go.Proofs.Ytfhnffondamhdaa.OwnMd Go.Proofs.Ytfhnffondamhdaa.OwnGs Go.Proofs.Ytfhnffondamhdaa.OwnSm
set_option linter.unusedVariables false
set_option linter.unusedSimpArgs false
theorem rec_eq (p : List Int) (r : Int) (lo : List Int) (b : List (Int × Int)) (p' : List Int) (r' : Int) (lo' : List Int) (b' : List (Int × Int)) : decide ((p, r, lo, b) = (p', r', lo', b')) = (decide (r = r') && (decide (p = p') && (decide (lo = lo') && decide (b = b')))) := by
  by_cases h1 : r = r' <;> by_cases h2 : p = p' <;> by_cases h3 : lo = lo' <;> by_cases h4 : b = b' <;> simp [h1, h2, h3, h4]
set_option maxRecDepth 100000 in
set_option maxHeartbeats 20000000 in
theorem same_fn_i (Ap : Option Addr) (cp : Nat) (Al : Option Addr) (cl : Nat) (Ab : Option Addr) (cb : Nat) (f : Rec) (Ap' : Option Addr) (cp' : Nat) (Al' : Option Addr) (cl' : Nat) (Ab' : Option Addr) (cb' : Nat) (g : Rec) (w : World) (hr : FnRd w Ap cp Al cl Ab cb f) (hr' : FnRd w Ap' cp' Al' cl' Ab' cb' g) (hl : lens f) (hl' : lens g) : Calls Try.prog 77 #[fV Ap cp Al cl Ab cb f, fV Ap' cp' Al' cl' Ab' cb' g] w fun e w' => e = .returned (.bool (decide (f = g))) ∧ Below w.heap.size w w' := by
  obtain ⟨p, r, lo, b⟩ := f
  obtain ⟨p', r', lo', b'⟩ := g
  have kp := fun W (B : Below w.heap.size w W) => ints_i Ap cp p Ap' cp' p' W (FnR.below hr B).p1 hr.p2 (FnR.below hr' B).p1 hr'.p2 hl.1 hl'.1
  have kl := fun W (B : Below w.heap.size w W) => ints_i Al cl lo Al' cl' lo' W (FnR.below hr B).l1 hr.l2 (FnR.below hr' B).l1 hr'.l2 hl.2.1 hl'.2.1
  have kb := fun W (B : Below w.heap.size w W) => ins_i Ab cb b Ab' cb' b' W (FnR.below hr B).b1 hr.b2 (FnR.below hr' B).b1 hr'.b2 hl.2.2 hl'.2.2
  rw [rec_eq]
  clear hr hr' hl hl'
  show Calls Try.prog 77 #[fnV Ap cp p r Al cl lo Ab cb b, fnV Ap' cp' p' r' Al' cl' lo' Ab' cb' b'] w _
  generalize decide (p = p') = B1 at *
  generalize decide (lo = lo') = B2 at *
  generalize decide (b = b') = B3 at *
  by_cases h : r = r'
  · subst h
    rw [decide_eq_true rfl, Bool.true_and]
    cases B1 with
    | false =>
      rw [Bool.false_and]
      go_enter Try.func77, Try.ntmps77
      go_wp2_with (first | (go_at_call 108; (first | (with_reducible refine (kp _ (by repeat (first | with_reducible first | exact Below.refl _ _ | refine below_alloc ?_ _ | refine below_drew1 ?_ | refine pw_below_drewN ?_ _))).mono ?_) | (with_reducible refine (kl _ (by repeat (first | with_reducible first | exact Below.refl _ _ | refine below_alloc ?_ _ | refine below_drew1 ?_ | refine pw_below_drewN ?_ _))).mono ?_)); rintro e _ ⟨rfl, n2, rfl⟩) | (go_at_call 109; (with_reducible refine (kb _ (by repeat (first | with_reducible first | exact Below.refl _ _ | refine below_alloc ?_ _ | refine below_drew1 ?_ | refine pw_below_drewN ?_ _))).mono ?_); rintro e _ ⟨rfl, n3, rfl⟩))
      go_ret
      exact ⟨rfl, (by repeat (first | with_reducible first | exact Below.refl _ _ | refine below_alloc ?_ _ | refine below_drew1 ?_ | refine pw_below_drewN ?_ _))⟩
    | true =>
      rw [Bool.true_and]
      cases B2 with
      | false =>
        rw [Bool.false_and]
        go_enter Try.func77, Try.ntmps77
        go_wp2_with (first | (go_at_call 108; (first | (with_reducible refine (kp _ (by repeat (first | with_reducible first | exact Below.refl _ _ | refine below_alloc ?_ _ | refine below_drew1 ?_ | refine pw_below_drewN ?_ _))).mono ?_) | (with_reducible refine (kl _ (by repeat (first | with_reducible first | exact Below.refl _ _ | refine below_alloc ?_ _ | refine below_drew1 ?_ | refine pw_below_drewN ?_ _))).mono ?_)); rintro e _ ⟨rfl, n2, rfl⟩) | (go_at_call 109; (with_reducible refine (kb _ (by repeat (first | with_reducible first | exact Below.refl _ _ | refine below_alloc ?_ _ | refine below_drew1 ?_ | refine pw_below_drewN ?_ _))).mono ?_); rintro e _ ⟨rfl, n3, rfl⟩))
        go_ret
        exact ⟨rfl, (by repeat (first | with_reducible first | exact Below.refl _ _ | refine below_alloc ?_ _ | refine below_drew1 ?_ | refine pw_below_drewN ?_ _))⟩
      | true =>
        rw [Bool.true_and]
        go_enter Try.func77, Try.ntmps77
        go_wp2_with (first | (go_at_call 108; (first | (with_reducible refine (kp _ (by repeat (first | with_reducible first | exact Below.refl _ _ | refine below_alloc ?_ _ | refine below_drew1 ?_ | refine pw_below_drewN ?_ _))).mono ?_) | (with_reducible refine (kl _ (by repeat (first | with_reducible first | exact Below.refl _ _ | refine below_alloc ?_ _ | refine below_drew1 ?_ | refine pw_below_drewN ?_ _))).mono ?_)); rintro e _ ⟨rfl, n2, rfl⟩) | (go_at_call 109; (with_reducible refine (kb _ (by repeat (first | with_reducible first | exact Below.refl _ _ | refine below_alloc ?_ _ | refine below_drew1 ?_ | refine pw_below_drewN ?_ _))).mono ?_); rintro e _ ⟨rfl, n3, rfl⟩))
        go_ret
        exact ⟨rfl, (by repeat (first | with_reducible first | exact Below.refl _ _ | refine below_alloc ?_ _ | refine below_drew1 ?_ | refine pw_below_drewN ?_ _))⟩
  · rw [decide_eq_false h, Bool.false_and]
    have t1 : (r == r') = false := beq_eq_false_iff_ne.2 h
    go_enter Try.func77, Try.ntmps77
    go_wp2_with (first | (go_at_call 108; (first | (with_reducible refine (kp _ (by repeat (first | with_reducible first | exact Below.refl _ _ | refine below_alloc ?_ _ | refine below_drew1 ?_ | refine pw_below_drewN ?_ _))).mono ?_) | (with_reducible refine (kl _ (by repeat (first | with_reducible first | exact Below.refl _ _ | refine below_alloc ?_ _ | refine below_drew1 ?_ | refine pw_below_drewN ?_ _))).mono ?_)); rintro e _ ⟨rfl, n2, rfl⟩) | (go_at_call 109; (with_reducible refine (kb _ (by repeat (first | with_reducible first | exact Below.refl _ _ | refine below_alloc ?_ _ | refine below_drew1 ?_ | refine pw_below_drewN ?_ _))).mono ?_); rintro e _ ⟨rfl, n3, rfl⟩))
    go_ret
    exact ⟨rfl, (by repeat (first | with_reducible first | exact Below.refl _ _ | refine below_alloc ?_ _ | refine below_drew1 ?_ | refine pw_below_drewN ?_ _))⟩
end Go.Proofs.Ytfhnffondamhdaa.OwnSmF
namespace Go.Proofs.Ytfhnffondamhdaa.OwnSmE
open Go Go.RowKit Go.Proofs.YtfhnffondamhdaaW.PrintWords Go.Proofs.YtfhnffondamhdaaW.PrintLast Go.Proofs.YtfhnffondamhdaaW.PrintMore Go.Proofs.Ytfhnffondamhdaa.OwnBs Go.Proofs.Ytfhnffondamhdaa.OwnKp Go.Proofs.Ytfhnffondamhdaa.OwnCode Go.Proofs.Ytfhnffondamhdaa.OwnSt Go.Proofs.Ytfhnffondamhdaa.OwnFn Go.Proofs.Ytfhnffondamhdaa.OwnFs Go.Proofs.Ytfhnffondamhdaa.OwnMd Go.Proofs.Ytfhnffondamhdaa.OwnGs Go.Proofs.Ytfhnffondamhdaa.OwnSm Go.Proofs.Ytfhnffondamhdaa.OwnSmF
set_option linter.unusedVariables false
set_option linter.unusedSimpArgs false
set_option maxRecDepth 100000 in
set_option maxHeartbeats 20000000 in
theorem eq_func (A : Option Addr) (c : Nat) (F : List Rec) (A' : Option Addr) (c' : Nat) (F' : List Rec) (w : World) (hr : FsR w A F) (hc : F.length ≤ c) (hr' : FsR w A' F') (hc' : F'.length ≤ c') (hl : F.length ≤ 1048576) (hm : F'.length ≤ 1048576) (hf : ∀ f ∈ F, lens f) (hf' : ∀ f ∈ F', lens f) : Calls Try.prog 76 #[.slice A F.length c, .slice A' F'.length c', .func (.func 77) #[] #[]] w fun e w' => e = .returned (.bool (decide (F = F'))) ∧ Below w.heap.size w w' := by
  have HR := Aside0.mk hr
  have HR' := Aside0.mk hr'
  have HL := Aside0.mk hf
  have HL' := Aside0.mk hf'
  generalize hV : decide (F = F') = V
  have HV := Aside0.mk hV
  clear hr hr' hV hf hf'
  by_cases z : F.length = F'.length
  rotate_left
  · obtain rfl : V = false := by rw [← HV.out]; exact decide_eq_false (fun e => z (by rw [e]))
    have d1 : ((F.length : Int) != (F'.length : Int)) = true := bne_iff_ne.2 (by omega)
    have d2 : ((F.length : Int) == (F'.length : Int)) = false := beq_eq_false_iff_ne.2 (by omega)
    clear HR HR' HL HL'
    generalize F.length = a at *
    generalize F'.length = b at *
    go_enter Try.func76, Try.ntmps76
    go_wp2
    go_ret
    exact ⟨rfl, Below.refl _ _⟩
  have d1 : ((F.length : Int) != (F'.length : Int)) = false := bne_eq_false_iff_eq.2 (by omega)
  have d2 : ((F.length : Int) == (F'.length : Int)) = true := beq_iff_eq.2 (by omega)
  have HZ := Aside0.mk z
  clear z
  generalize ha : F.length = a at *
  generalize hb : F'.length = b at *
  have HA := Aside0.mk ha
  have HB := Aside0.mk hb
  clear ha hb
  go_enter Try.func76, Try.ntmps76
  go_wp2
  clear d1 d2
  go_loopg [17] a (fun kq v17 w' => ∃ i : Nat, i + kq = a ∧ v17 = .int .i64 i ∧ Aside0 (Below w.heap.size w w') ∧ Aside0 (∀ j, (h1 : j < F.length) → (h2 : j < F'.length) → j < i → F[j] = F'[j]))
  case atStart => exact ⟨0, by omega, rfl, ⟨Below.refl _ _⟩, ⟨fun j _ _ h => absurd h (Nat.not_lt_zero _)⟩⟩
  case round =>
    obtain ⟨i, hi, rfl, HBL, HE⟩ := hrel
    cases gk with
    | zero =>
      obtain rfl : i = a := by omega
      have hd : decide ((i : Int) < (i : Int)) = false := decide_eq_false (by omega)
      obtain rfl : V = true := by rw [← HV.out]; exact decide_eq_true (eq_take (by rw [HA.out, HB.out]; exact HZ.out) (fun j h1 h2 => HE.out j h1 h2 (by rw [← HA.out]; exact h1)))
      go_wp2
      go_ret
      exact ⟨rfl, HBL.out⟩
    | succ k1 =>
      have hil : i < F.length := by rw [HA.out]; omega
      have him : i < F'.length := by rw [HB.out]; have := HZ.out; omega
      have hia : (i : Int) < (a : Int) := by omega
      have hib : (i : Int) < (b : Int) := by have := HZ.out; omega
      have hd : decide ((i : Int) < (a : Int)) = true := decide_eq_true (by omega)
      obtain ⟨ad, Ap, cp, Al, cl, Ab, cb, e1, hx0, hx1, hx2, hx3, hRd⟩ := HR.out i hil
      obtain ⟨ad', Ap', cp', Al', cl', Ab', cb', e2, hy0, hy1, hy2, hy3, hRd'⟩ := HR'.out i him
      subst e1; subst e2
      have hbl := HBL.out
      replace hx0 := (hbl.cell (World.block_lt_of_cell? w _ hx0)).trans hx0
      replace hx1 := (hbl.cell (World.block_lt_of_cell? w _ hx1)).trans hx1
      replace hx2 := (hbl.cell (World.block_lt_of_cell? w _ hx2)).trans hx2
      replace hx3 := (hbl.cell (World.block_lt_of_cell? w _ hx3)).trans hx3
      replace hy0 := (hbl.cell (World.block_lt_of_cell? w _ hy0)).trans hy0
      replace hy1 := (hbl.cell (World.block_lt_of_cell? w _ hy1)).trans hy1
      replace hy2 := (hbl.cell (World.block_lt_of_cell? w _ hy2)).trans hy2
      replace hy3 := (hbl.cell (World.block_lt_of_cell? w _ hy3)).trans hy3
      have lx0 := World.block_lt_of_cell? wr _ hx0
      have ly0 := World.block_lt_of_cell? wr _ hy0
      have HRd := Aside0.mk (FnR.below hRd hbl)
      have HRd' := Aside0.mk (FnR.below hRd' hbl)
      have HLi := Aside0.mk (HL.out F[i] (List.getElem_mem hil))
      have HLi' := Aside0.mk (HL'.out F'[i] (List.getElem_mem him))
      have HN : Aside0 (F[i] ≠ F'[i] → V = false) := ⟨fun h => by rw [← HV.out]; exact decide_eq_false (ne_at i hil him h)⟩
      have HY : Aside0 (F[i] = F'[i] → ∀ j, (h1 : j < F.length) → (h2 : j < F'.length) → j < i + 1 → F[j] = F'[j]) := ⟨fun h j h1 h2 hj => by
        by_cases e : j = i
        · subst e; exact h
        · exact HE.out j h1 h2 (by omega)⟩
      clear HE hRd hRd' hbl
      generalize F[i] = f at *
      generalize F'[i] = g at *
      have cg := fun W (B : Below wr.heap.size wr W) => same_fn_i Ap cp Al cl Ab cb f Ap' cp' Al' cl' Ab' cb' g W (FnR.below HRd.out B) (FnR.below HRd'.out B) HLi.out HLi'.out
      have q1 : (0 : Int) ≤ (i : Int) := by omega
      have ew : IntKind.i64.wrap ((i : Int) + 1) = (i : Int) + 1 := by rw [IntKind.wrap_i64]; omega
      by_cases t : f = g
      · have HY2 := Aside0.mk (HY.out t)
        rw [decide_eq_true t] at cg
        clear HY HN t HRd HRd' HLi HLi'
        obtain ⟨p, r, lo, b1⟩ := f
        obtain ⟨p', r', lo', b1'⟩ := g
        go_wp2_with (go_at_call 77; (with_reducible refine (cg _ (by repeat (first | with_reducible first | exact Below.refl _ _ | refine below_alloc ?_ _ | refine below_drew1 ?_ | refine pw_below_drewN ?_ _))).mono ?_); rintro e w2 ⟨rfl, hb2⟩)
        go_roundg k1
        case measure => omega
        case rel => exact ⟨i + 1, by omega, by rw [Int.natCast_add]; rfl, ⟨below_step HBL.out (by repeat (first | with_reducible first | exact Below.refl _ _ | refine below_alloc ?_ _ | refine below_drew1 ?_ | refine pw_below_drewN ?_ _ | refine below_step ?_ hb2))⟩, HY2⟩
      · obtain rfl : V = false := HN.out t
        rw [decide_eq_false t] at cg
        clear HY HN t HRd HRd' HLi HLi'
        obtain ⟨p, r, lo, b1⟩ := f
        obtain ⟨p', r', lo', b1'⟩ := g
        go_wp2_with (go_at_call 77; (with_reducible refine (cg _ (by repeat (first | with_reducible first | exact Below.refl _ _ | refine below_alloc ?_ _ | refine below_drew1 ?_ | refine pw_below_drewN ?_ _))).mono ?_); rintro e w2 ⟨rfl, hb2⟩)
        go_ret
        exact ⟨rfl, below_step HBL.out (by repeat (first | with_reducible first | exact Below.refl _ _ | refine below_alloc ?_ _ | refine below_drew1 ?_ | refine pw_below_drewN ?_ _ | refine below_step ?_ hb2))⟩
end Go.Proofs.Ytfhnffondamhdaa.OwnSmE
namespace Go.Proofs.Ytfhnffondamhdaa.OwnSmS
open Go Go.RowKit Go.Proofs.YtfhnffondamhdaaW.PrintWords Go.Proofs.YtfhnffondamhdaaW.PrintLast Go.Proofs.YtfhnffondamhdaaW.PrintMore Go.Proofs.Ytfhnffondamhdaa.OwnBs Go.Proofs.Ytfhnffondamhdaa.OwnKp Go.Proofs.Ytfhnffondamhdaa.OwnCode Go.Proofs.Ytfhnffondamhdaa.OwnSt Go.Proofs.Ytfhnffondamhdaa.OwnFn Go.Proofs.Ytfhnffondamhdaa.OwnFs Go.Proofs.Ytfhnffondamhdaa.OwnMd Go.Proofs.Ytfhnffondamhdaa.OwnGs Go.Proofs.Ytfhnffondamhdaa.OwnSm Go.Proofs.Ytfhnffondamhdaa.OwnSmF
set_option linter.unusedVariables false
set_option linter.unusedSimpArgs false
/-- The last rows of two boxed functions. -/
structure C2 (w wr : World) (v v' : Value) : Prop where
  c0 : wr.cell? ⟨w.heap.size, 3, none⟩ = some v
  c1 : wr.cell? ⟨w.heap.size + 1, 3, none⟩ = some v'
  bel : Below w.heap.size w wr
theorem C2.drew {w wr : World} {v v' : Value} (h : C2 w wr v v') (n : Nat) : C2 w (wr.drewN n) v v' := ⟨h.c0, h.c1, pw_below_drewN h.bel _⟩
set_option maxRecDepth 100000 in
set_option maxHeartbeats 20000000 in
theorem same_fn_s (Ap : Option Addr) (cp : Nat) (Al : Option Addr) (cl : Nat) (Ab : Option Addr) (cb : Nat) (f : Rec) (Ap' : Option Addr) (cp' : Nat) (Al' : Option Addr) (cl' : Nat) (Ab' : Option Addr) (cb' : Nat) (g : Rec) (w : World) (hr : FnRd w Ap cp Al cl Ab cb f) (hr' : FnRd w Ap' cp' Al' cl' Ab' cb' g) (hl : lens f) (hl' : lens g) : Calls Try.prog 75 #[fV Ap cp Al cl Ab cb f, fV Ap' cp' Al' cl' Ab' cb' g] w fun e w' => e = .returned (.bool (decide (f = g))) ∧ Below w.heap.size w w' := by
  obtain ⟨p, r, lo, b⟩ := f
  obtain ⟨p', r', lo', b'⟩ := g
  have kp := fun W (B : Below w.heap.size w W) => ints_s Ap cp p Ap' cp' p' W (FnR.below hr B).p1 hr.p2 (FnR.below hr' B).p1 hr'.p2 hl.1 hl'.1
  have kl := fun W (B : Below w.heap.size w W) => ints_s Al cl lo Al' cl' lo' W (FnR.below hr B).l1 hr.l2 (FnR.below hr' B).l1 hr'.l2 hl.2.1 hl'.2.1
  rw [rec_eq]
  have HR := Aside0.mk hr.b1
  have HR' := Aside0.mk hr'.b1
  have b2 : b.length ≤ cb := hr.b2
  have b2' : b'.length ≤ cb' := hr'.b2
  have bl : b.length ≤ 1048576 := hl.2.2
  have bl' : b'.length ≤ 1048576 := hl'.2.2
  clear hr hr' hl hl'
  show Calls Try.prog 75 #[fnV Ap cp p r Al cl lo Ab cb b, fnV Ap' cp' p' r' Al' cl' lo' Ab' cb' b'] w _
  generalize decide (p = p') = B1 at *
  generalize decide (lo = lo') = B2 at *
  cases B1 with
  | false =>
    rw [Bool.false_and, Bool.and_false]
    go_enter Try.func75, Try.ntmps75
    go_wp2_with (go_at_call 107; (first | (with_reducible refine (kp _ (by repeat (first | with_reducible first | exact Below.refl _ _ | refine below_alloc ?_ _ | refine below_drew1 ?_ | refine pw_below_drewN ?_ _))).mono ?_) | (with_reducible refine (kl _ (by repeat (first | with_reducible first | exact Below.refl _ _ | refine below_alloc ?_ _ | refine below_drew1 ?_ | refine pw_below_drewN ?_ _))).mono ?_)); rintro e _ ⟨rfl, n2, rfl⟩)
    go_ret
    exact ⟨rfl, (by repeat (first | with_reducible first | exact Below.refl _ _ | refine below_alloc ?_ _ | refine below_drew1 ?_ | refine pw_below_drewN ?_ _))⟩
  | true =>
    rw [Bool.true_and]
    by_cases h : r = r'
    rotate_left
    · rw [decide_eq_false h, Bool.false_and]
      have t1 : (r == r') = false := beq_eq_false_iff_ne.2 h
      have t2 : (r != r') = true := bne_iff_ne.2 h
      go_enter Try.func75, Try.ntmps75
      go_wp2_with (go_at_call 107; (first | (with_reducible refine (kp _ (by repeat (first | with_reducible first | exact Below.refl _ _ | refine below_alloc ?_ _ | refine below_drew1 ?_ | refine pw_below_drewN ?_ _))).mono ?_) | (with_reducible refine (kl _ (by repeat (first | with_reducible first | exact Below.refl _ _ | refine below_alloc ?_ _ | refine below_drew1 ?_ | refine pw_below_drewN ?_ _))).mono ?_)); rintro e _ ⟨rfl, n2, rfl⟩)
      go_ret
      exact ⟨rfl, (by repeat (first | with_reducible first | exact Below.refl _ _ | refine below_alloc ?_ _ | refine below_drew1 ?_ | refine pw_below_drewN ?_ _))⟩
    rw [decide_eq_true h, Bool.true_and]
    have t1 : (r == r') = true := beq_iff_eq.2 h
    have t2 : (r != r') = false := bne_eq_false_iff_eq.2 h
    clear h
    cases B2 with
    | false =>
      rw [Bool.false_and]
      go_enter Try.func75, Try.ntmps75
      go_wp2_with (go_at_call 107; (first | (with_reducible refine (kp _ (by repeat (first | with_reducible first | exact Below.refl _ _ | refine below_alloc ?_ _ | refine below_drew1 ?_ | refine pw_below_drewN ?_ _))).mono ?_) | (with_reducible refine (kl _ (by repeat (first | with_reducible first | exact Below.refl _ _ | refine below_alloc ?_ _ | refine below_drew1 ?_ | refine pw_below_drewN ?_ _))).mono ?_)); rintro e _ ⟨rfl, n2, rfl⟩)
      go_ret
      exact ⟨rfl, (by repeat (first | with_reducible first | exact Below.refl _ _ | refine below_alloc ?_ _ | refine below_drew1 ?_ | refine pw_below_drewN ?_ _))⟩
    | true =>
      rw [Bool.true_and]
      generalize hV : decide (b = b') = V
      have HV := Aside0.mk hV
      clear hV
      by_cases z : b.length = b'.length
      rotate_left
      · obtain rfl : V = false := by rw [← HV.out]; exact decide_eq_false (fun e => z (by rw [e]))
        have d1 : ((b.length : Int) != (b'.length : Int)) = true := bne_iff_ne.2 (by omega)
        have d2 : ((b.length : Int) == (b'.length : Int)) = false := beq_eq_false_iff_ne.2 (by omega)
        clear HR HR' HV
        go_enter Try.func75, Try.ntmps75
        go_wp2_with (go_at_call 107; (first | (with_reducible refine (kp _ (by repeat (first | with_reducible first | exact Below.refl _ _ | refine below_alloc ?_ _ | refine below_drew1 ?_ | refine pw_below_drewN ?_ _))).mono ?_) | (with_reducible refine (kl _ (by repeat (first | with_reducible first | exact Below.refl _ _ | refine below_alloc ?_ _ | refine below_drew1 ?_ | refine pw_below_drewN ?_ _))).mono ?_)); rintro e _ ⟨rfl, n2, rfl⟩)
        go_ret
        exact ⟨rfl, (by repeat (first | with_reducible first | exact Below.refl _ _ | refine below_alloc ?_ _ | refine below_drew1 ?_ | refine pw_below_drewN ?_ _))⟩
      have d1 : ((b.length : Int) != (b'.length : Int)) = false := bne_eq_false_iff_eq.2 (by omega)
      have d2 : ((b.length : Int) == (b'.length : Int)) = true := beq_iff_eq.2 (by omega)
      have HZ := Aside0.mk z
      clear z
      generalize ha : b.length = a at *
      generalize hb : b'.length = a' at *
      have HA := Aside0.mk ha
      have HB := Aside0.mk hb
      have e1 : fnV Ap cp p r Al cl lo Ab cb b = .agg #[.slice Ap p.length cp, .int .i64 r, .slice Al lo.length cl, .slice Ab a cb] := by rw [← ha]
      have e2 : fnV Ap' cp' p' r' Al' cl' lo' Ab' cb' b' = .agg #[.slice Ap' p'.length cp', .int .i64 r', .slice Al' lo'.length cl', .slice Ab' a' cb'] := by rw [← hb]
      rw [e1, e2]
      clear ha hb e1 e2
      go_enter Try.func75, Try.ntmps75
      go_wp2_with (go_at_call 107; (first | (with_reducible refine (kp _ (by repeat (first | with_reducible first | exact Below.refl _ _ | refine below_alloc ?_ _ | refine below_drew1 ?_ | refine pw_below_drewN ?_ _))).mono ?_) | (with_reducible refine (kl _ (by repeat (first | with_reducible first | exact Below.refl _ _ | refine below_alloc ?_ _ | refine below_drew1 ?_ | refine pw_below_drewN ?_ _))).mono ?_)); rintro e _ ⟨rfl, n2, rfl⟩)
      clear d1 d2 t1 t2 kp kl
      go_loopg [39] a (fun kq v39 w' => ∃ i : Nat, i + kq = a ∧ v39 = .int .i64 i ∧ Aside0 (C2 w w' (.slice Ab a cb) (.slice Ab' a' cb')) ∧ Aside0 (∀ j, (h1 : j < b.length) → (h2 : j < b'.length) → j < i → b[j] = b'[j]))
      case atStart => exact ⟨0, by omega, rfl, ⟨⟨by go_simp, by go_simp, (by repeat (first | with_reducible first | exact Below.refl _ _ | refine below_alloc ?_ _ | refine below_drew1 ?_ | refine pw_below_drewN ?_ _))⟩⟩, ⟨fun j _ _ h => absurd h (Nat.not_lt_zero _)⟩⟩
      case round =>
        obtain ⟨i, hi, rfl, HM, HE⟩ := hrel
        have m0 := HM.out.c0
        have m1 := HM.out.c1
        cases gk with
        | zero =>
          obtain rfl : i = a := by omega
          have hd : decide ((i : Int) < (i : Int)) = false := decide_eq_false (by omega)
          obtain rfl : V = true := by rw [← HV.out]; exact decide_eq_true (eq_take (by rw [HA.out, HB.out]; exact HZ.out) (fun j h1 h2 => HE.out j h1 h2 (by rw [← HA.out]; exact h1)))
          go_wp2
          go_ret
          exact ⟨rfl, HM.out.bel⟩
        | succ k1 =>
          have hil : i < b.length := by rw [HA.out]; omega
          have him : i < b'.length := by rw [HB.out]; have := HZ.out; omega
          have hia : (i : Int) < (a : Int) := by omega
          have hib : (i : Int) < (a' : Int) := by have := HZ.out; omega
          have hd : decide ((i : Int) < (a : Int)) = true := decide_eq_true (by omega)
          obtain ⟨ad, e1, hx0, hx1⟩ := OwnSm.at_ins HR.out i hil
          obtain ⟨ad', e2, hy0, hy1⟩ := OwnSm.at_ins HR'.out i him
          subst e1; subst e2
          have hbl := HM.out.bel
          replace hx0 := (hbl.cell (World.block_lt_of_cell? w _ hx0)).trans hx0
          replace hx1 := (hbl.cell (World.block_lt_of_cell? w _ hx1)).trans hx1
          replace hy0 := (hbl.cell (World.block_lt_of_cell? w _ hy0)).trans hy0
          replace hy1 := (hbl.cell (World.block_lt_of_cell? w _ hy1)).trans hy1
          have HN : Aside0 (b[i] ≠ b'[i] → V = false) := ⟨fun h => by rw [← HV.out]; exact decide_eq_false (ne_at i hil him h)⟩
          have HY : Aside0 (b[i] = b'[i] → ∀ j, (h1 : j < b.length) → (h2 : j < b'.length) → j < i + 1 → b[j] = b'[j]) := ⟨fun h j h1 h2 hj => by
            by_cases e : j = i
            · subst e; exact h
            · exact HE.out j h1 h2 (by omega)⟩
          clear HE hbl
          generalize b[i] = x at *
          generalize b'[i] = y at *
          obtain ⟨x0, x1⟩ := x
          obtain ⟨y0, y1⟩ := y
          simp only at hx0 hx1 hy0 hy1
          have q1 : (0 : Int) ≤ (i : Int) := by omega
          have ew : IntKind.i64.wrap ((i : Int) + 1) = (i : Int) + 1 := by rw [IntKind.wrap_i64]; omega
          by_cases t : (x0, x1) = (y0, y1)
          · obtain ⟨rfl, rfl⟩ := Prod.mk.inj t
            clear HN t
            have HY2 := Aside0.mk (HY.out rfl)
            clear HY
            go_wp2
            go_quiet (fail)
            all_goals
              go_wp2
              go_roundg k1
              case measure => omega
              case rel => exact ⟨i + 1, by omega, by rw [Int.natCast_add]; rfl, ⟨C2.drew HM.out _⟩, HY2⟩
          · obtain rfl : V = false := HN.out t
            clear HY HN
            by_cases u : x0 = y0
            · subst u
              have u2 : x1 ≠ y1 := fun h => t (by rw [h])
              clear t
              have t1u2 : (x1 == y1) = false := beq_eq_false_iff_ne.2 u2
              have t2u2 : (x1 != y1) = true := bne_iff_ne.2 u2
              go_wp2
              go_quiet (fail)
              all_goals
                go_wp2
                go_ret
                exact ⟨rfl, pw_below_drewN HM.out.bel _⟩
            · clear t
              have t1u : (x0 == y0) = false := beq_eq_false_iff_ne.2 u
              have t2u : (x0 != y0) = true := bne_iff_ne.2 u
              go_wp2
              go_quiet (fail)
              all_goals
                go_wp2
                go_ret
                exact ⟨rfl, pw_below_drewN HM.out.bel _⟩
end Go.Proofs.Ytfhnffondamhdaa.OwnSmS
namespace Go.Proofs.Ytfhnffondamhdaa.OwnSmI
open Go Go.RowKit Go.Proofs.YtfhnffondamhdaaW.PrintWords Go.Proofs.YtfhnffondamhdaaW.PrintLast Go.Proofs.YtfhnffondamhdaaW.PrintMore Go.Proofs.Ytfhnffondamhdaa.OwnBs Go.Proofs.Ytfhnffondamhdaa.OwnKp Go.Proofs.Ytfhnffondamhdaa.OwnCode Go.Proofs.Ytfhnffondamhdaa.OwnSt Go.Proofs.Ytfhnffondamhdaa.OwnFn Go.Proofs.Ytfhnffondamhdaa.OwnFs Go.Proofs.Ytfhnffondamhdaa.OwnMd Go.Proofs.Ytfhnffondamhdaa.OwnGs Go.Proofs.Ytfhnffondamhdaa.OwnSm Go.Proofs.Ytfhnffondamhdaa.OwnSmF Go.Proofs.Ytfhnffondamhdaa.OwnSmE
set_option linter.unusedVariables false
set_option linter.unusedSimpArgs false
/-- Two modules alike. -/
def allM (F F' : List Rec) (G G' : List Glo) (mem mem' : Bool) (pages pages' most most' start start' : Int) : Bool := decide (F = F') && (decide (G = G') && (decide (mem = mem') && (decide (pages = pages') && (decide (most = most') && decide (start = start')))))
set_option maxRecDepth 100000 in
set_option maxHeartbeats 20000000 in
theorem same_i (Af : Option Addr) (cf : Nat) (F : List Rec) (Ag : Option Addr) (cg : Nat) (G : List Glo) (mem : Bool) (pages most start : Int) (Af' : Option Addr) (cf' : Nat) (F' : List Rec) (Ag' : Option Addr) (cg' : Nat) (G' : List Glo) (mem' : Bool) (pages' most' start' : Int) (w : World) (hr : MdR w Af cf F Ag cg G) (hF : F.length ≤ 1048576) (hf : ∀ f ∈ F, lens f) (hG : G.length ≤ 1048576) (hS : -9223372036854775808 ≤ start) (hS2 : start ≤ 9223372036854775807) (hr' : MdR w Af' cf' F' Ag' cg' G') (hF' : F'.length ≤ 1048576) (hf' : ∀ f ∈ F', lens f) (hG' : G'.length ≤ 1048576) (hS' : -9223372036854775808 ≤ start') (hS2' : start' ≤ 9223372036854775807) : Calls Try.prog 32 #[mdV Af cf F Ag cg G mem pages most start, mdV Af' cf' F' Ag' cg' G' mem' pages' most' start'] w fun e w' => e = .returned (.tuple #[.bool ((gsM F G mem pages most start && gsM F' G' mem' pages' most' start') && allM F F' G G' mem mem' pages pages' most most' start start'), .bool (gsM F G mem pages most start && gsM F' G' mem' pages' most' start')]) ∧ Below w.heap.size w w' := by
  have k1 := fun W (B : Below w.heap.size w W) => OwnGsI.gsh_i Af cf F Ag cg G mem pages most start W (MdR.below hr B) hF hf hG hS hS2
  have k2 := fun W (B : Below w.heap.size w W) => OwnGsI.gsh_i Af' cf' F' Ag' cg' G' mem' pages' most' start' W (MdR.below hr' B) hF' hf' hG' hS' hS2'
  have k3 := fun W (B : Below w.heap.size w W) => eq_func Af cf F Af' cf' F' W (MdR.below hr B).f1 hr.f2 (MdR.below hr' B).f1 hr'.f2 hF hF' hf hf'
  have k4 := fun W (B : Below w.heap.size w W) => glos_i Ag cg G Ag' cg' G' W (MdR.below hr B).g1 hr.g2 (MdR.below hr' B).g1 hr'.g2 hG hG'
  clear hr hr' hf hf' hF hF' hG hG' hS hS' hS2 hS2'
  unfold allM
  generalize gsM F G mem pages most start = B1 at *
  generalize gsM F' G' mem' pages' most' start' = B2 at *
  generalize decide (F = F') = E1 at *
  generalize decide (G = G') = E2 at *
  cases B1 with
  | false =>
    rw [Bool.false_and, Bool.false_and]
    go_enter Try.func32, Try.ntmps32
    go_wp2_with (first | (go_at_call 30; (with_reducible refine (k1 _ (by repeat (first | with_reducible first | exact Below.refl _ _ | refine below_alloc ?_ _ | refine below_drew1 ?_ | refine pw_below_drewN ?_ _))).mono ?_); rintro e w2 ⟨rfl, hb2⟩; obtain ⟨hc2, hf2⟩ := bcell hb2; obtain ⟨_, _, _, _, _, _, hz2_0⟩ : M6 (w.heap.size) w2 Af cf F.length Ag cg G.length mem pages most start := M6.below (by constructor <;> first | (go_simp; done) | omega | (simp; omega)) hb2; obtain ⟨_, _, _, _, _, _, hz2_1⟩ : M6 (w.heap.size + 1) w2 Af' cf' F'.length Ag' cg' G'.length mem' pages' most' start' := M6.below (by constructor <;> first | (go_simp; done) | omega | (simp; omega)) hb2))
    go_ret2
    exact ⟨rfl, (by repeat (first | with_reducible first | exact Below.refl _ _ | refine below_alloc ?_ _ | refine below_drew1 ?_ | refine pw_below_drewN ?_ _ | refine below_step ?_ hb2))⟩
  | true =>
    cases B2 with
    | false =>
      rw [Bool.and_false, Bool.false_and]
      go_enter Try.func32, Try.ntmps32
      go_wp2_with (first | (go_at_call 30; (with_reducible refine (k1 _ (by repeat (first | with_reducible first | exact Below.refl _ _ | refine below_alloc ?_ _ | refine below_drew1 ?_ | refine pw_below_drewN ?_ _))).mono ?_); rintro e w2 ⟨rfl, hb2⟩; obtain ⟨hc2, hf2⟩ := bcell hb2; obtain ⟨_, _, _, _, _, _, hz2_0⟩ : M6 (w.heap.size) w2 Af cf F.length Ag cg G.length mem pages most start := M6.below (by constructor <;> first | (go_simp; done) | omega | (simp; omega)) hb2; obtain ⟨_, _, _, _, _, _, hz2_1⟩ : M6 (w.heap.size + 1) w2 Af' cf' F'.length Ag' cg' G'.length mem' pages' most' start' := M6.below (by constructor <;> first | (go_simp; done) | omega | (simp; omega)) hb2) | (go_at_call 30; (with_reducible refine (k2 _ (by repeat (first | with_reducible first | exact Below.refl _ _ | refine below_alloc ?_ _ | refine below_drew1 ?_ | refine pw_below_drewN ?_ _ | refine below_step ?_ hb2))).mono ?_); rintro e w3 ⟨rfl, hb3⟩; obtain ⟨hc3, hf3⟩ := bcell hb3; obtain ⟨_, _, _, _, _, _, hz3_0⟩ : M6 (w.heap.size) w3 Af cf F.length Ag cg G.length mem pages most start := M6.below (by constructor <;> first | (go_simp; done) | omega | (simp; omega)) hb3; obtain ⟨_, _, _, _, _, _, hz3_1⟩ : M6 (w.heap.size + 1) w3 Af' cf' F'.length Ag' cg' G'.length mem' pages' most' start' := M6.below (by constructor <;> first | (go_simp; done) | omega | (simp; omega)) hb3))
      go_ret2
      exact ⟨rfl, (by repeat (first | with_reducible first | exact Below.refl _ _ | refine below_alloc ?_ _ | refine below_drew1 ?_ | refine pw_below_drewN ?_ _ | refine below_step ?_ hb2 | refine below_step ?_ hb3))⟩
    | true =>
      rw [Bool.and_self, Bool.true_and]
      cases E1 with
      | false =>
        rw [Bool.false_and]
        go_enter Try.func32, Try.ntmps32
        go_wp2_with (first | (go_at_call 30; (with_reducible refine (k1 _ (by repeat (first | with_reducible first | exact Below.refl _ _ | refine below_alloc ?_ _ | refine below_drew1 ?_ | refine pw_below_drewN ?_ _))).mono ?_); rintro e w2 ⟨rfl, hb2⟩; obtain ⟨hc2, hf2⟩ := bcell hb2; obtain ⟨_, _, _, _, _, _, hz2_0⟩ : M6 (w.heap.size) w2 Af cf F.length Ag cg G.length mem pages most start := M6.below (by constructor <;> first | (go_simp; done) | omega | (simp; omega)) hb2; obtain ⟨_, _, _, _, _, _, hz2_1⟩ : M6 (w.heap.size + 1) w2 Af' cf' F'.length Ag' cg' G'.length mem' pages' most' start' := M6.below (by constructor <;> first | (go_simp; done) | omega | (simp; omega)) hb2) | (go_at_call 30; (with_reducible refine (k2 _ (by repeat (first | with_reducible first | exact Below.refl _ _ | refine below_alloc ?_ _ | refine below_drew1 ?_ | refine pw_below_drewN ?_ _ | refine below_step ?_ hb2))).mono ?_); rintro e w3 ⟨rfl, hb3⟩; obtain ⟨hc3, hf3⟩ := bcell hb3; obtain ⟨_, _, _, _, _, _, hz3_0⟩ : M6 (w.heap.size) w3 Af cf F.length Ag cg G.length mem pages most start := M6.below (by constructor <;> first | (go_simp; done) | omega | (simp; omega)) hb3; obtain ⟨_, _, _, _, _, _, hz3_1⟩ : M6 (w.heap.size + 1) w3 Af' cf' F'.length Ag' cg' G'.length mem' pages' most' start' := M6.below (by constructor <;> first | (go_simp; done) | omega | (simp; omega)) hb3) | (go_at_call 76; (with_reducible refine (k3 _ (by repeat (first | with_reducible first | exact Below.refl _ _ | refine below_alloc ?_ _ | refine below_drew1 ?_ | refine pw_below_drewN ?_ _ | refine below_step ?_ hb2 | refine below_step ?_ hb3))).mono ?_); rintro e w4 ⟨rfl, hb4⟩; obtain ⟨hc4, hf4⟩ := bcell hb4; obtain ⟨_, _, _, _, _, _, hz4_0⟩ : M6 (w.heap.size) w4 Af cf F.length Ag cg G.length mem pages most start := M6.below (by constructor <;> first | (go_simp; done) | omega | (simp; omega)) hb4; obtain ⟨_, _, _, _, _, _, hz4_1⟩ : M6 (w.heap.size + 1) w4 Af' cf' F'.length Ag' cg' G'.length mem' pages' most' start' := M6.below (by constructor <;> first | (go_simp; done) | omega | (simp; omega)) hb4))
        go_ret2
        exact ⟨rfl, (by repeat (first | with_reducible first | exact Below.refl _ _ | refine below_alloc ?_ _ | refine below_drew1 ?_ | refine pw_below_drewN ?_ _ | refine below_step ?_ hb2 | refine below_step ?_ hb3 | refine below_step ?_ hb4))⟩
      | true =>
        rw [Bool.true_and]
        cases E2 with
        | false =>
          rw [Bool.false_and]
          go_enter Try.func32, Try.ntmps32
          go_wp2_with (first | (go_at_call 30; (with_reducible refine (k1 _ (by repeat (first | with_reducible first | exact Below.refl _ _ | refine below_alloc ?_ _ | refine below_drew1 ?_ | refine pw_below_drewN ?_ _))).mono ?_); rintro e w2 ⟨rfl, hb2⟩; obtain ⟨hc2, hf2⟩ := bcell hb2; obtain ⟨_, _, _, _, _, _, hz2_0⟩ : M6 (w.heap.size) w2 Af cf F.length Ag cg G.length mem pages most start := M6.below (by constructor <;> first | (go_simp; done) | omega | (simp; omega)) hb2; obtain ⟨_, _, _, _, _, _, hz2_1⟩ : M6 (w.heap.size + 1) w2 Af' cf' F'.length Ag' cg' G'.length mem' pages' most' start' := M6.below (by constructor <;> first | (go_simp; done) | omega | (simp; omega)) hb2) | (go_at_call 30; (with_reducible refine (k2 _ (by repeat (first | with_reducible first | exact Below.refl _ _ | refine below_alloc ?_ _ | refine below_drew1 ?_ | refine pw_below_drewN ?_ _ | refine below_step ?_ hb2))).mono ?_); rintro e w3 ⟨rfl, hb3⟩; obtain ⟨hc3, hf3⟩ := bcell hb3; obtain ⟨_, _, _, _, _, _, hz3_0⟩ : M6 (w.heap.size) w3 Af cf F.length Ag cg G.length mem pages most start := M6.below (by constructor <;> first | (go_simp; done) | omega | (simp; omega)) hb3; obtain ⟨_, _, _, _, _, _, hz3_1⟩ : M6 (w.heap.size + 1) w3 Af' cf' F'.length Ag' cg' G'.length mem' pages' most' start' := M6.below (by constructor <;> first | (go_simp; done) | omega | (simp; omega)) hb3) | (go_at_call 76; (with_reducible refine (k3 _ (by repeat (first | with_reducible first | exact Below.refl _ _ | refine below_alloc ?_ _ | refine below_drew1 ?_ | refine pw_below_drewN ?_ _ | refine below_step ?_ hb2 | refine below_step ?_ hb3))).mono ?_); rintro e w4 ⟨rfl, hb4⟩; obtain ⟨hc4, hf4⟩ := bcell hb4; obtain ⟨_, _, _, _, _, _, hz4_0⟩ : M6 (w.heap.size) w4 Af cf F.length Ag cg G.length mem pages most start := M6.below (by constructor <;> first | (go_simp; done) | omega | (simp; omega)) hb4; obtain ⟨_, _, _, _, _, _, hz4_1⟩ : M6 (w.heap.size + 1) w4 Af' cf' F'.length Ag' cg' G'.length mem' pages' most' start' := M6.below (by constructor <;> first | (go_simp; done) | omega | (simp; omega)) hb4) | (go_at_call 78; (with_reducible refine (k4 _ (by repeat (first | with_reducible first | exact Below.refl _ _ | refine below_alloc ?_ _ | refine below_drew1 ?_ | refine pw_below_drewN ?_ _ | refine below_step ?_ hb2 | refine below_step ?_ hb3 | refine below_step ?_ hb4))).mono ?_); rintro e _ ⟨rfl, n5, rfl⟩))
          go_ret2
          exact ⟨rfl, (by repeat (first | with_reducible first | exact Below.refl _ _ | refine below_alloc ?_ _ | refine below_drew1 ?_ | refine pw_below_drewN ?_ _ | refine below_step ?_ hb2 | refine below_step ?_ hb3 | refine below_step ?_ hb4))⟩
        | true =>
          rw [Bool.true_and]
          generalize hV : (decide (mem = mem') && (decide (pages = pages') && (decide (most = most') && decide (start = start')))) = V
          have HV := Aside0.mk hV
          clear hV
          go_enter Try.func32, Try.ntmps32
          go_upto_region 4 with (first | (go_at_call 30; (with_reducible refine (k1 _ (by repeat (first | with_reducible first | exact Below.refl _ _ | refine below_alloc ?_ _ | refine below_drew1 ?_ | refine pw_below_drewN ?_ _))).mono ?_); rintro e w2 ⟨rfl, hb2⟩; obtain ⟨hc2, hf2⟩ := bcell hb2; obtain ⟨_, _, _, _, _, _, hz2_0⟩ : M6 (w.heap.size) w2 Af cf F.length Ag cg G.length mem pages most start := M6.below (by constructor <;> first | (go_simp; done) | omega | (simp; omega)) hb2; obtain ⟨_, _, _, _, _, _, hz2_1⟩ : M6 (w.heap.size + 1) w2 Af' cf' F'.length Ag' cg' G'.length mem' pages' most' start' := M6.below (by constructor <;> first | (go_simp; done) | omega | (simp; omega)) hb2) | (go_at_call 30; (with_reducible refine (k2 _ (by repeat (first | with_reducible first | exact Below.refl _ _ | refine below_alloc ?_ _ | refine below_drew1 ?_ | refine pw_below_drewN ?_ _ | refine below_step ?_ hb2))).mono ?_); rintro e w3 ⟨rfl, hb3⟩; obtain ⟨hc3, hf3⟩ := bcell hb3; obtain ⟨_, _, _, _, _, _, hz3_0⟩ : M6 (w.heap.size) w3 Af cf F.length Ag cg G.length mem pages most start := M6.below (by constructor <;> first | (go_simp; done) | omega | (simp; omega)) hb3; obtain ⟨_, _, _, _, _, _, hz3_1⟩ : M6 (w.heap.size + 1) w3 Af' cf' F'.length Ag' cg' G'.length mem' pages' most' start' := M6.below (by constructor <;> first | (go_simp; done) | omega | (simp; omega)) hb3) | (go_at_call 76; (with_reducible refine (k3 _ (by repeat (first | with_reducible first | exact Below.refl _ _ | refine below_alloc ?_ _ | refine below_drew1 ?_ | refine pw_below_drewN ?_ _ | refine below_step ?_ hb2 | refine below_step ?_ hb3))).mono ?_); rintro e w4 ⟨rfl, hb4⟩; obtain ⟨hc4, hf4⟩ := bcell hb4; obtain ⟨_, _, _, _, _, _, hz4_0⟩ : M6 (w.heap.size) w4 Af cf F.length Ag cg G.length mem pages most start := M6.below (by constructor <;> first | (go_simp; done) | omega | (simp; omega)) hb4; obtain ⟨_, _, _, _, _, _, hz4_1⟩ : M6 (w.heap.size + 1) w4 Af' cf' F'.length Ag' cg' G'.length mem' pages' most' start' := M6.below (by constructor <;> first | (go_simp; done) | omega | (simp; omega)) hb4) | (go_at_call 78; (with_reducible refine (k4 _ (by repeat (first | with_reducible first | exact Below.refl _ _ | refine below_alloc ?_ _ | refine below_drew1 ?_ | refine pw_below_drewN ?_ _ | refine below_step ?_ hb2 | refine below_step ?_ hb3 | refine below_step ?_ hb4))).mono ?_); rintro e _ ⟨rfl, n5, rfl⟩))
          by_cases t1 : mem = mem'
          rotate_left
          · obtain rfl : V = false := by rw [← HV.out]; simp [t1]
            have u1 : (mem == mem') = false := beq_eq_false_iff_ne.2 t1
            go_wp2
            go_ret2
            exact ⟨rfl, (by repeat (first | with_reducible first | exact Below.refl _ _ | refine below_alloc ?_ _ | refine below_drew1 ?_ | refine pw_below_drewN ?_ _ | refine below_step ?_ hb2 | refine below_step ?_ hb3 | refine below_step ?_ hb4))⟩
          have u1 : (mem == mem') = true := beq_iff_eq.2 t1
          have T1 := Aside0.mk t1
          clear t1
          by_cases t2 : pages = pages'
          rotate_left
          · obtain rfl : V = false := by rw [← HV.out]; simp [t2]
            have u2 : (pages == pages') = false := beq_eq_false_iff_ne.2 t2
            go_wp2
            go_ret2
            exact ⟨rfl, (by repeat (first | with_reducible first | exact Below.refl _ _ | refine below_alloc ?_ _ | refine below_drew1 ?_ | refine pw_below_drewN ?_ _ | refine below_step ?_ hb2 | refine below_step ?_ hb3 | refine below_step ?_ hb4))⟩
          have u2 : (pages == pages') = true := beq_iff_eq.2 t2
          have T2 := Aside0.mk t2
          clear t2
          by_cases t3 : most = most'
          rotate_left
          · obtain rfl : V = false := by rw [← HV.out]; simp [t3]
            have u3 : (most == most') = false := beq_eq_false_iff_ne.2 t3
            go_wp2
            go_ret2
            exact ⟨rfl, (by repeat (first | with_reducible first | exact Below.refl _ _ | refine below_alloc ?_ _ | refine below_drew1 ?_ | refine pw_below_drewN ?_ _ | refine below_step ?_ hb2 | refine below_step ?_ hb3 | refine below_step ?_ hb4))⟩
          have u3 : (most == most') = true := beq_iff_eq.2 t3
          have T3 := Aside0.mk t3
          clear t3
          by_cases t4 : start = start'
          rotate_left
          · obtain rfl : V = false := by rw [← HV.out]; simp [t4]
            have u4 : (start == start') = false := beq_eq_false_iff_ne.2 t4
            go_wp2
            go_ret2
            exact ⟨rfl, (by repeat (first | with_reducible first | exact Below.refl _ _ | refine below_alloc ?_ _ | refine below_drew1 ?_ | refine pw_below_drewN ?_ _ | refine below_step ?_ hb2 | refine below_step ?_ hb3 | refine below_step ?_ hb4))⟩
          have u4 : (start == start') = true := beq_iff_eq.2 t4
          have T4 := Aside0.mk t4
          clear t4
          obtain rfl : V = true := by rw [← HV.out]; simp [T1.out, T2.out, T3.out, T4.out]
          go_wp2
          go_ret2
          exact ⟨rfl, (by repeat (first | with_reducible first | exact Below.refl _ _ | refine below_alloc ?_ _ | refine below_drew1 ?_ | refine pw_below_drewN ?_ _ | refine below_step ?_ hb2 | refine below_step ?_ hb3 | refine below_step ?_ hb4))⟩
end Go.Proofs.Ytfhnffondamhdaa.OwnSmI
namespace Go.Proofs.Ytfhnffondamhdaa.OwnSmQ
open Go Go.RowKit Go.Proofs.YtfhnffondamhdaaW.PrintWords Go.Proofs.YtfhnffondamhdaaW.PrintLast Go.Proofs.YtfhnffondamhdaaW.PrintMore Go.Proofs.Ytfhnffondamhdaa.OwnBs Go.Proofs.Ytfhnffondamhdaa.OwnKp Go.Proofs.Ytfhnffondamhdaa.OwnCode Go.Proofs.Ytfhnffondamhdaa.OwnSt Go.Proofs.Ytfhnffondamhdaa.OwnFn Go.Proofs.Ytfhnffondamhdaa.OwnFs Go.Proofs.Ytfhnffondamhdaa.OwnMd Go.Proofs.Ytfhnffondamhdaa.OwnGs Go.Proofs.Ytfhnffondamhdaa.OwnSm Go.Proofs.Ytfhnffondamhdaa.OwnSmF Go.Proofs.Ytfhnffondamhdaa.OwnSmS Go.Proofs.Ytfhnffondamhdaa.OwnSmI
set_option linter.unusedVariables false
set_option linter.unusedSimpArgs false
structure C4 (w wr : World) (v0 v1 v0' v1' : Value) : Prop where
  c0 : wr.cell? ⟨w.heap.size, 0, none⟩ = some v0
  c1 : wr.cell? ⟨w.heap.size, 1, none⟩ = some v1
  d0 : wr.cell? ⟨w.heap.size + 1, 0, none⟩ = some v0'
  d1 : wr.cell? ⟨w.heap.size + 1, 1, none⟩ = some v1'
  lt : w.heap.size + 1 < wr.heap.size
  bel : Below w.heap.size w wr
theorem C4.below {w wr w1 : World} {v0 v1 v0' v1' : Value} (h : C4 w wr v0 v1 v0' v1') (hb : Below wr.heap.size wr w1) : C4 w w1 v0 v1 v0' v1' :=
  have l0 : w.heap.size < wr.heap.size := by have := h.lt; omega
  ⟨(hb.cell (p := ⟨_, _, none⟩) l0).trans h.c0, (hb.cell (p := ⟨_, _, none⟩) l0).trans h.c1, (hb.cell (p := ⟨_, _, none⟩) h.lt).trans h.d0, (hb.cell (p := ⟨_, _, none⟩) h.lt).trans h.d1, Nat.lt_of_lt_of_le h.lt hb.size, below_step h.bel hb⟩
section
variable {F F' : List Rec} {G G' : List Glo} {mem mem' : Bool} {pages pages' most most' start start' : Int}
theorem all_F (h : F ≠ F') : allM F F' G G' mem mem' pages pages' most most' start start' = false := by simp [allM, h]
theorem all_G (h : G ≠ G') : allM F F' G G' mem mem' pages pages' most most' start start' = false := by simp [allM, h]
theorem all_m (h : mem ≠ mem') : allM F F' G G' mem mem' pages pages' most most' start start' = false := by simp [allM, h]
theorem all_p (h : pages ≠ pages') : allM F F' G G' mem mem' pages pages' most most' start start' = false := by simp [allM, h]
theorem all_t (h : most ≠ most') : allM F F' G G' mem mem' pages pages' most most' start start' = false := by simp [allM, h]
theorem all_s (h : start ≠ start') : allM F F' G G' mem mem' pages pages' most most' start start' = false := by simp [allM, h]
theorem all_y (h1 : F = F') (h2 : G = G') (h3 : mem = mem') (h4 : pages = pages') (h5 : most = most') (h6 : start = start') : allM F F' G G' mem mem' pages pages' most most' start start' = true := by simp [allM, h1, h2, h3, h4, h5, h6]
end
set_option maxRecDepth 100000 in
set_option maxHeartbeats 20000000 in
theorem same_s (Af : Option Addr) (cf : Nat) (F : List Rec) (Ag : Option Addr) (cg : Nat) (G : List Glo) (mem : Bool) (pages most start : Int) (Af' : Option Addr) (cf' : Nat) (F' : List Rec) (Ag' : Option Addr) (cg' : Nat) (G' : List Glo) (mem' : Bool) (pages' most' start' : Int) (w : World) (hr : MdR w Af cf F Ag cg G) (hF : F.length ≤ 1048576) (hf : ∀ f ∈ F, lens f) (hG : G.length ≤ 1048576) (hS : -9223372036854775808 ≤ start) (hS2 : start ≤ 9223372036854775807) (hr' : MdR w Af' cf' F' Ag' cg' G') (hF' : F'.length ≤ 1048576) (hf' : ∀ f ∈ F', lens f) (hG' : G'.length ≤ 1048576) (hS' : -9223372036854775808 ≤ start') (hS2' : start' ≤ 9223372036854775807) : Calls Try.prog 31 #[mdV Af cf F Ag cg G mem pages most start, mdV Af' cf' F' Ag' cg' G' mem' pages' most' start'] w fun e w' => e = .returned (.tuple #[.bool ((gsM F G mem pages most start && gsM F' G' mem' pages' most' start') && allM F F' G G' mem mem' pages pages' most most' start start'), .bool (gsM F G mem pages most start && gsM F' G' mem' pages' most' start')]) ∧ Below w.heap.size w w' := by
  have k1 := fun W (B : Below w.heap.size w W) => OwnGsS.gsh_s Af cf F Ag cg G mem pages most start W (MdR.below hr B) hF hf hG hS hS2
  have k2 := fun W (B : Below w.heap.size w W) => OwnGsS.gsh_s Af' cf' F' Ag' cg' G' mem' pages' most' start' W (MdR.below hr' B) hF' hf' hG' hS' hS2'
  have HR := Aside0.mk hr
  have HR' := Aside0.mk hr'
  have HL := Aside0.mk hf
  have HL' := Aside0.mk hf'
  have f2 := hr.f2
  have f2' := hr'.f2
  have g2 := hr.g2
  have g2' := hr'.g2
  clear hr hr' hf hf' hS hS' hS2 hS2'
  generalize gsM F G mem pages most start = B1 at *
  generalize gsM F' G' mem' pages' most' start' = B2 at *
  generalize hV : allM F F' G G' mem mem' pages pages' most most' start start' = V
  have HV := Aside0.mk hV
  clear hV
  cases B1 with
  | false =>
    rw [Bool.false_and, Bool.false_and]
    go_enter Try.func31, Try.ntmps31
    go_wp2_with (first | (go_at_call 29; (with_reducible refine (k1 _ (by repeat (first | with_reducible first | exact Below.refl _ _ | refine below_alloc ?_ _ | refine below_drew1 ?_ | refine pw_below_drewN ?_ _))).mono ?_); rintro e w2 ⟨rfl, hb2⟩; obtain ⟨hc2, hf2⟩ := bcell hb2; obtain ⟨k2_0_0, k2_0_1, k2_0_2, k2_0_3, k2_0_4, k2_0_5, hz2_0⟩ : M6 (w.heap.size) w2 Af cf F.length Ag cg G.length mem pages most start := M6.below (by constructor <;> first | (go_simp; done) | omega | (simp; omega)) hb2; obtain ⟨k2_1_0, k2_1_1, k2_1_2, k2_1_3, k2_1_4, k2_1_5, hz2_1⟩ : M6 (w.heap.size + 1) w2 Af' cf' F'.length Ag' cg' G'.length mem' pages' most' start' := M6.below (by constructor <;> first | (go_simp; done) | omega | (simp; omega)) hb2))
    go_ret2
    exact ⟨rfl, (by repeat (first | with_reducible first | exact Below.refl _ _ | refine below_alloc ?_ _ | refine below_drew1 ?_ | refine pw_below_drewN ?_ _ | refine below_step ?_ hb2))⟩
  | true =>
    cases B2 with
    | false =>
      rw [Bool.and_false, Bool.false_and]
      go_enter Try.func31, Try.ntmps31
      go_wp2_with (first | (go_at_call 29; (with_reducible refine (k1 _ (by repeat (first | with_reducible first | exact Below.refl _ _ | refine below_alloc ?_ _ | refine below_drew1 ?_ | refine pw_below_drewN ?_ _))).mono ?_); rintro e w2 ⟨rfl, hb2⟩; obtain ⟨hc2, hf2⟩ := bcell hb2; obtain ⟨k2_0_0, k2_0_1, k2_0_2, k2_0_3, k2_0_4, k2_0_5, hz2_0⟩ : M6 (w.heap.size) w2 Af cf F.length Ag cg G.length mem pages most start := M6.below (by constructor <;> first | (go_simp; done) | omega | (simp; omega)) hb2; obtain ⟨k2_1_0, k2_1_1, k2_1_2, k2_1_3, k2_1_4, k2_1_5, hz2_1⟩ : M6 (w.heap.size + 1) w2 Af' cf' F'.length Ag' cg' G'.length mem' pages' most' start' := M6.below (by constructor <;> first | (go_simp; done) | omega | (simp; omega)) hb2) | (go_at_call 29; (with_reducible refine (k2 _ (by repeat (first | with_reducible first | exact Below.refl _ _ | refine below_alloc ?_ _ | refine below_drew1 ?_ | refine pw_below_drewN ?_ _ | refine below_step ?_ hb2))).mono ?_); rintro e w3 ⟨rfl, hb3⟩; obtain ⟨hc3, hf3⟩ := bcell hb3; obtain ⟨k3_0_0, k3_0_1, k3_0_2, k3_0_3, k3_0_4, k3_0_5, hz3_0⟩ : M6 (w.heap.size) w3 Af cf F.length Ag cg G.length mem pages most start := M6.below (by constructor <;> first | (go_simp; done) | omega | (simp; omega)) hb3; obtain ⟨k3_1_0, k3_1_1, k3_1_2, k3_1_3, k3_1_4, k3_1_5, hz3_1⟩ : M6 (w.heap.size + 1) w3 Af' cf' F'.length Ag' cg' G'.length mem' pages' most' start' := M6.below (by constructor <;> first | (go_simp; done) | omega | (simp; omega)) hb3))
      go_ret2
      exact ⟨rfl, (by repeat (first | with_reducible first | exact Below.refl _ _ | refine below_alloc ?_ _ | refine below_drew1 ?_ | refine pw_below_drewN ?_ _ | refine below_step ?_ hb2 | refine below_step ?_ hb3))⟩
    | true =>
      rw [Bool.and_self, Bool.true_and]
      go_enter Try.func31, Try.ntmps31
      go_upto_region 3 with (first | (go_at_call 29; (with_reducible refine (k1 _ (by repeat (first | with_reducible first | exact Below.refl _ _ | refine below_alloc ?_ _ | refine below_drew1 ?_ | refine pw_below_drewN ?_ _))).mono ?_); rintro e w2 ⟨rfl, hb2⟩; obtain ⟨hc2, hf2⟩ := bcell hb2; obtain ⟨k2_0_0, k2_0_1, k2_0_2, k2_0_3, k2_0_4, k2_0_5, hz2_0⟩ : M6 (w.heap.size) w2 Af cf F.length Ag cg G.length mem pages most start := M6.below (by constructor <;> first | (go_simp; done) | omega | (simp; omega)) hb2; obtain ⟨k2_1_0, k2_1_1, k2_1_2, k2_1_3, k2_1_4, k2_1_5, hz2_1⟩ : M6 (w.heap.size + 1) w2 Af' cf' F'.length Ag' cg' G'.length mem' pages' most' start' := M6.below (by constructor <;> first | (go_simp; done) | omega | (simp; omega)) hb2) | (go_at_call 29; (with_reducible refine (k2 _ (by repeat (first | with_reducible first | exact Below.refl _ _ | refine below_alloc ?_ _ | refine below_drew1 ?_ | refine pw_below_drewN ?_ _ | refine below_step ?_ hb2))).mono ?_); rintro e w3 ⟨rfl, hb3⟩; obtain ⟨hc3, hf3⟩ := bcell hb3; obtain ⟨k3_0_0, k3_0_1, k3_0_2, k3_0_3, k3_0_4, k3_0_5, hz3_0⟩ : M6 (w.heap.size) w3 Af cf F.length Ag cg G.length mem pages most start := M6.below (by constructor <;> first | (go_simp; done) | omega | (simp; omega)) hb3; obtain ⟨k3_1_0, k3_1_1, k3_1_2, k3_1_3, k3_1_4, k3_1_5, hz3_1⟩ : M6 (w.heap.size + 1) w3 Af' cf' F'.length Ag' cg' G'.length mem' pages' most' start' := M6.below (by constructor <;> first | (go_simp; done) | omega | (simp; omega)) hb3))
      by_cases z1 : F.length = F'.length
      rotate_left
      · obtain rfl : V = false := by rw [← HV.out]; exact all_F (fun e => z1 (by rw [e]))
        have u1 : ((F.length : Int) == (F'.length : Int)) = false := beq_eq_false_iff_ne.2 (by omega)
        have v1 : ((F.length : Int) != (F'.length : Int)) = true := bne_iff_ne.2 (by omega)
        go_wp2
        go_ret2
        exact ⟨rfl, (by repeat (first | with_reducible first | exact Below.refl _ _ | refine below_alloc ?_ _ | refine below_drew1 ?_ | refine pw_below_drewN ?_ _ | refine below_step ?_ hb2 | refine below_step ?_ hb3))⟩
      have u1 : ((F.length : Int) == (F'.length : Int)) = true := beq_iff_eq.2 (by omega)
      have v1 : ((F.length : Int) != (F'.length : Int)) = false := bne_eq_false_iff_eq.2 (by omega)
      have HZ1 := Aside0.mk z1
      clear z1
      by_cases z2 : G.length = G'.length
      rotate_left
      · obtain rfl : V = false := by rw [← HV.out]; exact all_G (fun e => z2 (by rw [e]))
        have u2 : ((G.length : Int) == (G'.length : Int)) = false := beq_eq_false_iff_ne.2 (by omega)
        have v2 : ((G.length : Int) != (G'.length : Int)) = true := bne_iff_ne.2 (by omega)
        go_wp2
        go_ret2
        exact ⟨rfl, (by repeat (first | with_reducible first | exact Below.refl _ _ | refine below_alloc ?_ _ | refine below_drew1 ?_ | refine pw_below_drewN ?_ _ | refine below_step ?_ hb2 | refine below_step ?_ hb3))⟩
      have u2 : ((G.length : Int) == (G'.length : Int)) = true := beq_iff_eq.2 (by omega)
      have v2 : ((G.length : Int) != (G'.length : Int)) = false := bne_eq_false_iff_eq.2 (by omega)
      have HZ2 := Aside0.mk z2
      clear z2
      by_cases z3 : mem = mem'
      rotate_left
      · obtain rfl : V = false := by rw [← HV.out]; exact all_m z3
        have u3 : (mem == mem') = false := beq_eq_false_iff_ne.2 z3
        have v3 : (mem != mem') = true := bne_iff_ne.2 z3
        go_wp2
        go_ret2
        exact ⟨rfl, (by repeat (first | with_reducible first | exact Below.refl _ _ | refine below_alloc ?_ _ | refine below_drew1 ?_ | refine pw_below_drewN ?_ _ | refine below_step ?_ hb2 | refine below_step ?_ hb3))⟩
      have u3 : (mem == mem') = true := beq_iff_eq.2 z3
      have v3 : (mem != mem') = false := bne_eq_false_iff_eq.2 z3
      have HZ3 := Aside0.mk z3
      clear z3
      by_cases z4 : pages = pages'
      rotate_left
      · obtain rfl : V = false := by rw [← HV.out]; exact all_p z4
        have u4 : (pages == pages') = false := beq_eq_false_iff_ne.2 z4
        have v4 : (pages != pages') = true := bne_iff_ne.2 z4
        go_wp2
        go_ret2
        exact ⟨rfl, (by repeat (first | with_reducible first | exact Below.refl _ _ | refine below_alloc ?_ _ | refine below_drew1 ?_ | refine pw_below_drewN ?_ _ | refine below_step ?_ hb2 | refine below_step ?_ hb3))⟩
      have u4 : (pages == pages') = true := beq_iff_eq.2 z4
      have v4 : (pages != pages') = false := bne_eq_false_iff_eq.2 z4
      have HZ4 := Aside0.mk z4
      clear z4
      by_cases z5 : most = most'
      rotate_left
      · obtain rfl : V = false := by rw [← HV.out]; exact all_t z5
        have u5 : (most == most') = false := beq_eq_false_iff_ne.2 z5
        have v5 : (most != most') = true := bne_iff_ne.2 z5
        go_wp2
        go_ret2
        exact ⟨rfl, (by repeat (first | with_reducible first | exact Below.refl _ _ | refine below_alloc ?_ _ | refine below_drew1 ?_ | refine pw_below_drewN ?_ _ | refine below_step ?_ hb2 | refine below_step ?_ hb3))⟩
      have u5 : (most == most') = true := beq_iff_eq.2 z5
      have v5 : (most != most') = false := bne_eq_false_iff_eq.2 z5
      have HZ5 := Aside0.mk z5
      clear z5
      by_cases z6 : start = start'
      rotate_left
      · obtain rfl : V = false := by rw [← HV.out]; exact all_s z6
        have u6 : (start == start') = false := beq_eq_false_iff_ne.2 z6
        have v6 : (start != start') = true := bne_iff_ne.2 z6
        go_wp2
        go_ret2
        exact ⟨rfl, (by repeat (first | with_reducible first | exact Below.refl _ _ | refine below_alloc ?_ _ | refine below_drew1 ?_ | refine pw_below_drewN ?_ _ | refine below_step ?_ hb2 | refine below_step ?_ hb3))⟩
      have u6 : (start == start') = true := beq_iff_eq.2 z6
      have v6 : (start != start') = false := bne_eq_false_iff_eq.2 z6
      have HZ6 := Aside0.mk z6
      clear z6
      go_wp2
      have HC := Aside0.mk (show C4 w w3 (.slice Af F.length cf) (.slice Ag G.length cg) (.slice Af' F'.length cf') (.slice Ag' G'.length cg') from ⟨k3_0_0, k3_0_1, k3_1_0, k3_1_1, hz3_1, (by repeat (first | with_reducible first | exact Below.refl _ _ | refine below_alloc ?_ _ | refine below_drew1 ?_ | refine pw_below_drewN ?_ _ | refine below_step ?_ hb2 | refine below_step ?_ hb3))⟩)
      clear k1 k2 k2_0_0 k2_0_1 k2_0_2 k2_0_3 k2_0_4 k2_0_5 k2_1_0 k2_1_1 k2_1_2 k2_1_3 k2_1_4 k2_1_5 k3_0_0 k3_0_1 k3_0_2 k3_0_3 k3_0_4 k3_0_5 k3_1_0 k3_1_1 k3_1_2 k3_1_3 k3_1_4 k3_1_5 hz2_0 hz2_1 hz3_0 hz3_1 hc2 hf2 hc3 hf3 hb2 hb3 u1 v1 u2 v2 u3 v3 u4 v4 u5 v5 u6 v6
      go_loopg [63] F.length (fun kq v63 w' => ∃ i : Nat, i + kq = F.length ∧ v63 = .int .i64 i ∧ Aside0 (C4 w w' (.slice Af F.length cf) (.slice Ag G.length cg) (.slice Af' F'.length cf') (.slice Ag' G'.length cg')) ∧ Aside0 (∀ j, (h1 : j < F.length) → (h2 : j < F'.length) → j < i → F[j] = F'[j]))
      case atStart => exact ⟨0, by omega, rfl, HC, ⟨fun j _ _ h => absurd h (Nat.not_lt_zero _)⟩⟩
      case round =>
        clear HC
        obtain ⟨i, hi, rfl, HM, HE⟩ := hrel
        cases gk with
        | succ k1 =>
          have hil : i < F.length := by omega
          have him : i < F'.length := by have := HZ1.out; omega
          have hia : (i : Int) < (F.length : Int) := by omega
          have hib : (i : Int) < (F'.length : Int) := by omega
          have hd : decide ((i : Int) < (F.length : Int)) = true := decide_eq_true (by omega)
          obtain ⟨ad, Ap, cp, Al, cl, Ab, cb, e1, hx0, hx1, hx2, hx3, hRd⟩ := HR.out.f1 i hil
          obtain ⟨ad', Ap', cp', Al', cl', Ab', cb', e2, hy0, hy1, hy2, hy3, hRd'⟩ := HR'.out.f1 i him
          subst e1; subst e2
          have m0 := HM.out.c0
          have m1 := HM.out.d0
          have hbl := HM.out.bel
          replace hx0 := (hbl.cell (World.block_lt_of_cell? w _ hx0)).trans hx0
          replace hx1 := (hbl.cell (World.block_lt_of_cell? w _ hx1)).trans hx1
          replace hx2 := (hbl.cell (World.block_lt_of_cell? w _ hx2)).trans hx2
          replace hx3 := (hbl.cell (World.block_lt_of_cell? w _ hx3)).trans hx3
          replace hy0 := (hbl.cell (World.block_lt_of_cell? w _ hy0)).trans hy0
          replace hy1 := (hbl.cell (World.block_lt_of_cell? w _ hy1)).trans hy1
          replace hy2 := (hbl.cell (World.block_lt_of_cell? w _ hy2)).trans hy2
          replace hy3 := (hbl.cell (World.block_lt_of_cell? w _ hy3)).trans hy3
          have lq0 := World.block_lt_of_cell? wr _ m0
          have lq1 := World.block_lt_of_cell? wr _ m1
          have lq2 := World.block_lt_of_cell? wr _ hx0
          have lq3 := World.block_lt_of_cell? wr _ hx1
          have lq4 := World.block_lt_of_cell? wr _ hx2
          have lq5 := World.block_lt_of_cell? wr _ hx3
          have lq6 := World.block_lt_of_cell? wr _ hy0
          have lq7 := World.block_lt_of_cell? wr _ hy1
          have lq8 := World.block_lt_of_cell? wr _ hy2
          have lq9 := World.block_lt_of_cell? wr _ hy3
          have HRd := Aside0.mk (FnR.below hRd hbl)
          have HRd' := Aside0.mk (FnR.below hRd' hbl)
          have HLi := Aside0.mk (HL.out F[i] (List.getElem_mem hil))
          have HLi' := Aside0.mk (HL'.out F'[i] (List.getElem_mem him))
          have HN : Aside0 (F[i] ≠ F'[i] → V = false) := ⟨fun h => by rw [← HV.out]; exact all_F (ne_at i hil him h)⟩
          have HY : Aside0 (F[i] = F'[i] → ∀ j, (h1 : j < F.length) → (h2 : j < F'.length) → j < i + 1 → F[j] = F'[j]) := ⟨fun h j h1 h2 hj => by
            by_cases e : j = i
            · subst e; exact h
            · exact HE.out j h1 h2 (by omega)⟩
          clear HE hRd hRd' hbl
          generalize F[i] = f at *
          generalize F'[i] = f' at *
          have cg' := fun W (B : Below wr.heap.size wr W) => same_fn_s Ap cp Al cl Ab cb f Ap' cp' Al' cl' Ab' cb' f' W (FnR.below HRd.out B) (FnR.below HRd'.out B) HLi.out HLi'.out
          have q1 : (0 : Int) ≤ (i : Int) := by omega
          have ew : IntKind.i64.wrap ((i : Int) + 1) = (i : Int) + 1 := by rw [IntKind.wrap_i64]; omega
          by_cases t : f = f'
          · have HY2 := Aside0.mk (HY.out t)
            rw [decide_eq_true t] at cg'
            clear HY HN t HRd HRd' HLi HLi'
            go_wp2
            go_region_held_law (fun w' => w'.cell? ⟨w.heap.size, 0, none⟩ = some (.slice (some ad) F.length cf) ∧ w'.cell? ⟨w.heap.size + 1, 0, none⟩ = some (.slice (some ad') F'.length cf') ∧ w'.cell? (ad.add (i * 4)) = some (.slice Ap f.1.length cp) ∧ w'.cell? ⟨(ad.add (i * 4)).block, (ad.add (i * 4)).off + 1, none⟩ = some (.int .i64 f.2.1) ∧ w'.cell? ⟨(ad.add (i * 4)).block, (ad.add (i * 4)).off + 2, none⟩ = some (.slice Al f.2.2.1.length cl) ∧ w'.cell? ⟨(ad.add (i * 4)).block, (ad.add (i * 4)).off + 3, none⟩ = some (.slice Ab f.2.2.2.length cb) ∧ w'.cell? (ad'.add (i * 4)) = some (.slice Ap' f'.1.length cp') ∧ w'.cell? ⟨(ad'.add (i * 4)).block, (ad'.add (i * 4)).off + 1, none⟩ = some (.int .i64 f'.2.1) ∧ w'.cell? ⟨(ad'.add (i * 4)).block, (ad'.add (i * 4)).off + 2, none⟩ = some (.slice Al' f'.2.2.1.length cl') ∧ w'.cell? ⟨(ad'.add (i * 4)).block, (ad'.add (i * 4)).off + 3, none⟩ = some (.slice Ab' f'.2.2.2.length cb')) (refine ⟨?_, ?_, ?_, ?_, ?_, ?_, ?_, ?_, ?_, ?_⟩ <;> go_simp) (first | (go_at_call 75; (with_reducible refine (cg' _ (by repeat (first | with_reducible first | exact Below.refl _ _ | refine below_alloc ?_ _ | refine below_drew1 ?_ | refine pw_below_drewN ?_ _))).mono ?_); rintro e w2 ⟨rfl, hb2⟩; obtain ⟨hc2, hf2⟩ := bcell hb2; have j0 : w2.cell? ⟨w.heap.size, 0, none⟩ = some (.slice (some ad) F.length cf) := (by rw [hb2.cell (by first | exact lq0 | (simp; exact lq0))]; go_simp); have j1 : w2.cell? ⟨w.heap.size + 1, 0, none⟩ = some (.slice (some ad') F'.length cf') := (by rw [hb2.cell (by first | exact lq1 | (simp; exact lq1))]; go_simp); have j2 : w2.cell? (ad.add (i * 4)) = some (.slice Ap f.1.length cp) := (by rw [hb2.cell (by first | exact lq2 | (simp; exact lq2))]; go_simp); have j3 : w2.cell? ⟨(ad.add (i * 4)).block, (ad.add (i * 4)).off + 1, none⟩ = some (.int .i64 f.2.1) := (by rw [hb2.cell (by first | exact lq3 | (simp; exact lq3))]; go_simp); have j4 : w2.cell? ⟨(ad.add (i * 4)).block, (ad.add (i * 4)).off + 2, none⟩ = some (.slice Al f.2.2.1.length cl) := (by rw [hb2.cell (by first | exact lq4 | (simp; exact lq4))]; go_simp); have j5 : w2.cell? ⟨(ad.add (i * 4)).block, (ad.add (i * 4)).off + 3, none⟩ = some (.slice Ab f.2.2.2.length cb) := (by rw [hb2.cell (by first | exact lq5 | (simp; exact lq5))]; go_simp); have j6 : w2.cell? (ad'.add (i * 4)) = some (.slice Ap' f'.1.length cp') := (by rw [hb2.cell (by first | exact lq6 | (simp; exact lq6))]; go_simp); have j7 : w2.cell? ⟨(ad'.add (i * 4)).block, (ad'.add (i * 4)).off + 1, none⟩ = some (.int .i64 f'.2.1) := (by rw [hb2.cell (by first | exact lq7 | (simp; exact lq7))]; go_simp); have j8 : w2.cell? ⟨(ad'.add (i * 4)).block, (ad'.add (i * 4)).off + 2, none⟩ = some (.slice Al' f'.2.2.1.length cl') := (by rw [hb2.cell (by first | exact lq8 | (simp; exact lq8))]; go_simp); have j9 : w2.cell? ⟨(ad'.add (i * 4)).block, (ad'.add (i * 4)).off + 3, none⟩ = some (.slice Ab' f'.2.2.2.length cb') := (by rw [hb2.cell (by first | exact lq9 | (simp; exact lq9))]; go_simp)))
            all_goals
              first | (rename_i kk; refine kk _ _ ?_) | (rename_i kk _; refine kk _ _ ?_) | skip
              go_wp2
              go_roundg k1
              case measure => omega
              case rel => exact ⟨i + 1, by omega, by rw [Int.natCast_add]; rfl, ⟨C4.below HM.out (by repeat (first | with_reducible first | exact Below.refl _ _ | refine below_alloc ?_ _ | refine below_drew1 ?_ | refine pw_below_drewN ?_ _ | refine below_step ?_ hb2))⟩, HY2⟩
          · obtain rfl : V = false := HN.out t
            rw [decide_eq_false t] at cg'
            clear HY HN t HRd HRd' HLi HLi'
            go_wp2
            go_region_held_law (fun w' => w'.cell? ⟨w.heap.size, 0, none⟩ = some (.slice (some ad) F.length cf) ∧ w'.cell? ⟨w.heap.size + 1, 0, none⟩ = some (.slice (some ad') F'.length cf') ∧ w'.cell? (ad.add (i * 4)) = some (.slice Ap f.1.length cp) ∧ w'.cell? ⟨(ad.add (i * 4)).block, (ad.add (i * 4)).off + 1, none⟩ = some (.int .i64 f.2.1) ∧ w'.cell? ⟨(ad.add (i * 4)).block, (ad.add (i * 4)).off + 2, none⟩ = some (.slice Al f.2.2.1.length cl) ∧ w'.cell? ⟨(ad.add (i * 4)).block, (ad.add (i * 4)).off + 3, none⟩ = some (.slice Ab f.2.2.2.length cb) ∧ w'.cell? (ad'.add (i * 4)) = some (.slice Ap' f'.1.length cp') ∧ w'.cell? ⟨(ad'.add (i * 4)).block, (ad'.add (i * 4)).off + 1, none⟩ = some (.int .i64 f'.2.1) ∧ w'.cell? ⟨(ad'.add (i * 4)).block, (ad'.add (i * 4)).off + 2, none⟩ = some (.slice Al' f'.2.2.1.length cl') ∧ w'.cell? ⟨(ad'.add (i * 4)).block, (ad'.add (i * 4)).off + 3, none⟩ = some (.slice Ab' f'.2.2.2.length cb')) (refine ⟨?_, ?_, ?_, ?_, ?_, ?_, ?_, ?_, ?_, ?_⟩ <;> go_simp) (first | (go_at_call 75; (with_reducible refine (cg' _ (by repeat (first | with_reducible first | exact Below.refl _ _ | refine below_alloc ?_ _ | refine below_drew1 ?_ | refine pw_below_drewN ?_ _))).mono ?_); rintro e w2 ⟨rfl, hb2⟩; obtain ⟨hc2, hf2⟩ := bcell hb2; have j0 : w2.cell? ⟨w.heap.size, 0, none⟩ = some (.slice (some ad) F.length cf) := (by rw [hb2.cell (by first | exact lq0 | (simp; exact lq0))]; go_simp); have j1 : w2.cell? ⟨w.heap.size + 1, 0, none⟩ = some (.slice (some ad') F'.length cf') := (by rw [hb2.cell (by first | exact lq1 | (simp; exact lq1))]; go_simp); have j2 : w2.cell? (ad.add (i * 4)) = some (.slice Ap f.1.length cp) := (by rw [hb2.cell (by first | exact lq2 | (simp; exact lq2))]; go_simp); have j3 : w2.cell? ⟨(ad.add (i * 4)).block, (ad.add (i * 4)).off + 1, none⟩ = some (.int .i64 f.2.1) := (by rw [hb2.cell (by first | exact lq3 | (simp; exact lq3))]; go_simp); have j4 : w2.cell? ⟨(ad.add (i * 4)).block, (ad.add (i * 4)).off + 2, none⟩ = some (.slice Al f.2.2.1.length cl) := (by rw [hb2.cell (by first | exact lq4 | (simp; exact lq4))]; go_simp); have j5 : w2.cell? ⟨(ad.add (i * 4)).block, (ad.add (i * 4)).off + 3, none⟩ = some (.slice Ab f.2.2.2.length cb) := (by rw [hb2.cell (by first | exact lq5 | (simp; exact lq5))]; go_simp); have j6 : w2.cell? (ad'.add (i * 4)) = some (.slice Ap' f'.1.length cp') := (by rw [hb2.cell (by first | exact lq6 | (simp; exact lq6))]; go_simp); have j7 : w2.cell? ⟨(ad'.add (i * 4)).block, (ad'.add (i * 4)).off + 1, none⟩ = some (.int .i64 f'.2.1) := (by rw [hb2.cell (by first | exact lq7 | (simp; exact lq7))]; go_simp); have j8 : w2.cell? ⟨(ad'.add (i * 4)).block, (ad'.add (i * 4)).off + 2, none⟩ = some (.slice Al' f'.2.2.1.length cl') := (by rw [hb2.cell (by first | exact lq8 | (simp; exact lq8))]; go_simp); have j9 : w2.cell? ⟨(ad'.add (i * 4)).block, (ad'.add (i * 4)).off + 3, none⟩ = some (.slice Ab' f'.2.2.2.length cb') := (by rw [hb2.cell (by first | exact lq9 | (simp; exact lq9))]; go_simp)))
            all_goals
              go_wp2
              go_ret2
              exact ⟨rfl, below_step HM.out.bel (by repeat (first | with_reducible first | exact Below.refl _ _ | refine below_alloc ?_ _ | refine below_drew1 ?_ | refine pw_below_drewN ?_ _ | refine below_step ?_ hb2))⟩
        | zero =>
          obtain rfl : i = F.length := by omega
          have hd : decide ((F.length : Int) < (F.length : Int)) = false := decide_eq_false (by omega)
          have HF : Aside0 (F = F') := ⟨eq_take HZ1.out (fun j h1 h2 => HE.out j h1 h2 h1)⟩
          have m1 := HM.out.c1
          clear HE
          obtain ⟨wo, rfl⟩ : ∃ wo : World, wo = wr := ⟨_, rfl⟩
          go_wp2
          clear hd m1
          go_loopg [82] G.length (fun kq v82 w' => ∃ i : Nat, i + kq = G.length ∧ v82 = .int .i64 i ∧ Aside0 (C4 w w' (.slice Af F.length cf) (.slice Ag G.length cg) (.slice Af' F'.length cf') (.slice Ag' G'.length cg')) ∧ Aside0 (∀ j, (h1 : j < G.length) → (h2 : j < G'.length) → j < i → G[j] = G'[j]))
          case atStart => exact ⟨0, by omega, rfl, HM, ⟨fun j _ _ h => absurd h (Nat.not_lt_zero _)⟩⟩
          case round =>
            clear HM
            obtain ⟨i, hi, rfl, HM, HE⟩ := hrel
            cases gk with
            | succ k1 =>
              have hil : i < G.length := by omega
              have him : i < G'.length := by have := HZ2.out; omega
              have hia : (i : Int) < (G.length : Int) := by omega
              have hib : (i : Int) < (G'.length : Int) := by omega
              have hd : decide ((i : Int) < (G.length : Int)) = true := decide_eq_true (by omega)
              obtain ⟨ad, e1, hx0, hx1, hx2⟩ := at_glo HR.out.g1 i hil
              obtain ⟨ad', e2, hy0, hy1, hy2⟩ := at_glo HR'.out.g1 i him
              subst e1; subst e2
              have m0 := HM.out.c1
              have m1 := HM.out.d1
              have hbl := HM.out.bel
              replace hx0 := (hbl.cell (World.block_lt_of_cell? w _ hx0)).trans hx0
              replace hx1 := (hbl.cell (World.block_lt_of_cell? w _ hx1)).trans hx1
              replace hx2 := (hbl.cell (World.block_lt_of_cell? w _ hx2)).trans hx2
              replace hy0 := (hbl.cell (World.block_lt_of_cell? w _ hy0)).trans hy0
              replace hy1 := (hbl.cell (World.block_lt_of_cell? w _ hy1)).trans hy1
              replace hy2 := (hbl.cell (World.block_lt_of_cell? w _ hy2)).trans hy2
              have HN : Aside0 (G[i] ≠ G'[i] → V = false) := ⟨fun h => by rw [← HV.out]; exact all_G (ne_at i hil him h)⟩
              have HY : Aside0 (G[i] = G'[i] → ∀ j, (h1 : j < G.length) → (h2 : j < G'.length) → j < i + 1 → G[j] = G'[j]) := ⟨fun h j h1 h2 hj => by
                by_cases e : j = i
                · subst e; exact h
                · exact HE.out j h1 h2 (by omega)⟩
              clear HE hbl
              generalize G[i] = x at *
              generalize G'[i] = y at *
              obtain ⟨x0, x1, x2⟩ := x
              obtain ⟨y0, y1, y2⟩ := y
              simp only at hx0 hx1 hx2 hy0 hy1 hy2
              have q1 : (0 : Int) ≤ (i : Int) := by omega
              have ew : IntKind.i64.wrap ((i : Int) + 1) = (i : Int) + 1 := by rw [IntKind.wrap_i64]; omega
              by_cases t : (x0, x1, x2) = (y0, y1, y2)
              · obtain ⟨rfl, t2⟩ := Prod.mk.inj t
                obtain ⟨rfl, rfl⟩ := Prod.mk.inj t2
                clear HN t t2
                have HY2 := Aside0.mk (HY.out rfl)
                clear HY
                go_wp2
                go_quiet (fail)
                all_goals
                  go_wp2
                  go_roundg k1
                  case measure => omega
                  case rel => exact ⟨i + 1, by omega, by rw [Int.natCast_add]; rfl, ⟨C4.below HM.out (by repeat (first | with_reducible first | exact Below.refl _ _ | refine below_alloc ?_ _ | refine below_drew1 ?_ | refine pw_below_drewN ?_ _))⟩, HY2⟩
              · obtain rfl : V = false := HN.out t
                clear HY HN
                by_cases u : x0 = y0
                · subst u
                  by_cases u1 : x1 = y1
                  · subst u1
                    have u2 : x2 ≠ y2 := fun h => t (by rw [h])
                    clear t
                    have t1u2 : (x2 == y2) = false := beq_eq_false_iff_ne.2 u2
                    have t2u2 : (x2 != y2) = true := bne_iff_ne.2 u2
                    go_wp2
                    go_quiet (fail)
                    all_goals
                      go_wp2
                      go_ret2
                      exact ⟨rfl, below_step HM.out.bel (by repeat (first | with_reducible first | exact Below.refl _ _ | refine below_alloc ?_ _ | refine below_drew1 ?_ | refine pw_below_drewN ?_ _))⟩
                  · clear t
                    have t1u1 : (x1 == y1) = false := beq_eq_false_iff_ne.2 u1
                    have t2u1 : (x1 != y1) = true := bne_iff_ne.2 u1
                    go_wp2
                    go_quiet (fail)
                    all_goals
                      go_wp2
                      go_ret2
                      exact ⟨rfl, below_step HM.out.bel (by repeat (first | with_reducible first | exact Below.refl _ _ | refine below_alloc ?_ _ | refine below_drew1 ?_ | refine pw_below_drewN ?_ _))⟩
                · clear t
                  have t1u : (x0 == y0) = false := beq_eq_false_iff_ne.2 u
                  have t2u : (x0 != y0) = true := bne_iff_ne.2 u
                  go_wp2
                  go_quiet (fail)
                  all_goals
                    go_wp2
                    go_ret2
                    exact ⟨rfl, below_step HM.out.bel (by repeat (first | with_reducible first | exact Below.refl _ _ | refine below_alloc ?_ _ | refine below_drew1 ?_ | refine pw_below_drewN ?_ _))⟩
            | zero =>
              obtain rfl : i = G.length := by omega
              have hd : decide ((G.length : Int) < (G.length : Int)) = false := decide_eq_false (by omega)
              obtain rfl : V = true := by rw [← HV.out]; exact all_y HF.out (eq_take HZ2.out (fun j h1 h2 => HE.out j h1 h2 h1)) HZ3.out HZ4.out HZ5.out HZ6.out
              go_wp2
              go_ret2
              exact ⟨rfl, HM.out.bel⟩
end Go.Proofs.Ytfhnffondamhdaa.OwnSmQ
namespace Go.Proofs.Ytfhnffondamhdaa.OwnSmL
open Go Go.RowKit Go.Proofs.YtfhnffondamhdaaW.PrintWords Go.Proofs.YtfhnffondamhdaaW.PrintLast Go.Proofs.YtfhnffondamhdaaW.PrintMore Go.Proofs.Ytfhnffondamhdaa.OwnBs Go.Proofs.Ytfhnffondamhdaa.OwnKp Go.Proofs.Ytfhnffondamhdaa.OwnCode Go.Proofs.Ytfhnffondamhdaa.OwnSt Go.Proofs.Ytfhnffondamhdaa.OwnFn Go.Proofs.Ytfhnffondamhdaa.OwnSz Go.Proofs.Ytfhnffondamhdaa.OwnFs Go.Proofs.Ytfhnffondamhdaa.OwnMd Go.Proofs.Ytfhnffondamhdaa.OwnMdW Go.Proofs.Ytfhnffondamhdaa.OwnMdQ Go.Proofs.Ytfhnffondamhdaa.OwnMdE Go.Proofs.Ytfhnffondamhdaa.OwnGs Go.Proofs.Ytfhnffondamhdaa.OwnSm Go.Proofs.Ytfhnffondamhdaa.OwnSmI Go.Proofs.Ytfhnffondamhdaa.OwnSmQ
set_option linter.unusedVariables false
set_option linter.unusedSimpArgs false
set_option maxRecDepth 100000 in
set_option maxHeartbeats 40000000 in
theorem law_SameModule (Af : Option Addr) (cf : Nat) (F : List Rec) (Ag : Option Addr) (cg : Nat) (G : List Glo) (mem : Bool) (pages most start : Int) (Af' : Option Addr) (cf' : Nat) (F' : List Rec) (Ag' : Option Addr) (cg' : Nat) (G' : List Glo) (mem' : Bool) (pages' most' start' : Int) (w : World) (hr : MdR w Af cf F Ag cg G) (hF0 : F.length ≤ 9223372036854775807) (hf0 : ∀ f ∈ F, lens0 f) (hG0 : G.length ≤ 9223372036854775807) (hS : -9223372036854775808 ≤ start) (hS2 : start ≤ 9223372036854775807) (hr' : MdR w Af' cf' F' Ag' cg' G') (hF0' : F'.length ≤ 9223372036854775807) (hf0' : ∀ f ∈ F', lens0 f) (hG0' : G'.length ≤ 9223372036854775807) (hS' : -9223372036854775808 ≤ start') (hS2' : start' ≤ 9223372036854775807) : Calls Try.prog 8 #[mdV Af cf F Ag cg G mem pages most start, mdV Af' cf' F' Ag' cg' G' mem' pages' most' start'] w fun e w' => e = .returned (.bool true) ∧ Below w.heap.size w w' := by
  have HR := Aside0.mk hr
  have HR' := Aside0.mk hr'
  have cz := fun W (B : Below w.heap.size w W) => szMd Af cf F Ag cg G mem pages most start 1048576 W (HR.out.below B) (by decide) (by decide) hF0
  by_cases z : szM F G 1048576 < 0
  · clear hr hF0 hf0 hG0 hr' hF0' hf0' hG0' HR'
    generalize szM F G 1048576 = q at *
    have hd : decide (q < 0) = true := decide_eq_true z
    go_enter Try.func8, Try.ntmps8
    go_wp2_with (first | (go_at_call 9; (fail_if_success (have _ := hb1)); (with_reducible refine (cz _ (by repeat (first | with_reducible first | exact Below.refl _ _ | refine below_alloc ?_ _ | refine below_drew1 ?_ | refine pw_below_drewN ?_ _))).mono ?_); rintro e w1 ⟨rfl, hb1⟩; obtain ⟨hc1, hf1⟩ := bcell hb1; obtain ⟨_, _, _, _, _, _, hz1_P⟩ : M6 w.heap.size w1 Af cf F.length Ag cg G.length mem pages most start := M6.below (by constructor <;> first | (go_simp; done) | omega | (simp; omega)) hb1; obtain ⟨_, _, _, _, _, _, hz1_Q⟩ : M6 (w.heap.size + 1) w1 Af' cf' F'.length Ag' cg' G'.length mem' pages' most' start' := M6.below (by constructor <;> first | (go_simp; done) | omega | (simp; omega)) hb1))
    refine bodyPost_ret (v := .bool true) (by simp [results, Try.results8, go_sem, hc1, hf1, hz1_P, hz1_Q]) rfl ⟨rfl, ?_⟩
    exact (by repeat (first | with_reducible first | exact Below.refl _ _ | refine below_alloc ?_ _ | refine below_drew1 ?_ | refine pw_below_drewN ?_ _ | refine below_step ?_ hb1))
  obtain ⟨gF, gf, gG, q0, q1⟩ := szM_le hF0 hf0 hG0 (by decide) (by decide) z
  generalize szM F G 1048576 = q at *
  have hd : decide (q < 0) = false := decide_eq_false z
  have cz2 := fun W (B : Below w.heap.size w W) => szMd Af' cf' F' Ag' cg' G' mem' pages' most' start' q W (HR'.out.below B) q0 q1 hF0'
  by_cases z' : szM F' G' q < 0
  · clear hr hF0 hf0 hG0 hr' hF0' hf0' hG0' gF gf gG q0 q1
    generalize szM F' G' q = q' at *
    have hd' : decide (q' < 0) = true := decide_eq_true z'
    go_enter Try.func8, Try.ntmps8
    go_wp2_with (first | (go_at_call 9; (fail_if_success (have _ := hb2)); have _ := hb1; (with_reducible refine (cz2 _ (by repeat (first | with_reducible first | exact Below.refl _ _ | refine below_alloc ?_ _ | refine below_drew1 ?_ | refine pw_below_drewN ?_ _ | refine below_step ?_ hb1))).mono ?_); rintro e w2 ⟨rfl, hb2⟩; obtain ⟨hc2, hf2⟩ := bcell hb2; obtain ⟨_, _, _, _, _, _, hz2_P⟩ : M6 w.heap.size w2 Af cf F.length Ag cg G.length mem pages most start := M6.below (by constructor <;> first | (go_simp; done) | omega | (simp; omega)) hb2; obtain ⟨_, _, _, _, _, _, hz2_Q⟩ : M6 (w.heap.size + 1) w2 Af' cf' F'.length Ag' cg' G'.length mem' pages' most' start' := M6.below (by constructor <;> first | (go_simp; done) | omega | (simp; omega)) hb2) | (go_at_call 9; (fail_if_success (have _ := hb1)); (with_reducible refine (cz _ (by repeat (first | with_reducible first | exact Below.refl _ _ | refine below_alloc ?_ _ | refine below_drew1 ?_ | refine pw_below_drewN ?_ _))).mono ?_); rintro e w1 ⟨rfl, hb1⟩; obtain ⟨hc1, hf1⟩ := bcell hb1; obtain ⟨_, _, _, _, _, _, hz1_P⟩ : M6 w.heap.size w1 Af cf F.length Ag cg G.length mem pages most start := M6.below (by constructor <;> first | (go_simp; done) | omega | (simp; omega)) hb1; obtain ⟨_, _, _, _, _, _, hz1_Q⟩ : M6 (w.heap.size + 1) w1 Af' cf' F'.length Ag' cg' G'.length mem' pages' most' start' := M6.below (by constructor <;> first | (go_simp; done) | omega | (simp; omega)) hb1))
    refine bodyPost_ret (v := .bool true) (by simp [results, Try.results8, go_sem, hc1, hf1, hz1_P, hz1_Q, hc2, hf2, hz2_P, hz2_Q]) rfl ⟨rfl, ?_⟩
    exact (by repeat (first | with_reducible first | exact Below.refl _ _ | refine below_alloc ?_ _ | refine below_drew1 ?_ | refine pw_below_drewN ?_ _ | refine below_step ?_ hb2 | refine below_step ?_ hb1))
  obtain ⟨gF', gf', gG', _, _⟩ := szM_le hF0' hf0' hG0' q0 q1 z'
  have LF := Aside0.mk gF
  have Lf := Aside0.mk gf
  have LG := Aside0.mk gG
  have LF' := Aside0.mk gF'
  have Lf' := Aside0.mk gf'
  have LG' := Aside0.mk gG'
  have ct := fun W (B : Below w.heap.size w W) => toMd Af cf F Ag cg G mem pages most start W (HR.out.below B) LF.out Lf.out LG.out
  have ct2 := fun W (B : Below w.heap.size w W) => toMd Af' cf' F' Ag' cg' G' mem' pages' most' start' W (HR'.out.below B) LF'.out Lf'.out LG'.out
  have cs := fun A1 c1 D1 d1 A2 c2 D2 d2 W R R' => same_s A1 c1 F D1 d1 G mem pages most start A2 c2 F' D2 d2 G' mem' pages' most' start' W R LF.out Lf.out LG.out hS hS2 R' LF'.out Lf'.out LG'.out hS' hS2'
  have ci := fun A1 c1 D1 d1 A2 c2 D2 d2 W R R' => same_i A1 c1 F D1 d1 G mem pages most start A2 c2 F' D2 d2 G' mem' pages' most' start' W R LF.out Lf.out LG.out hS hS2 R' LF'.out Lf'.out LG'.out hS' hS2'
  have ce := fun A1 c1 D1 d1 A2 c2 D2 d2 W R R' => eqMd A1 c1 F D1 d1 G mem pages most start A2 c2 D2 d2 W R R' LF.out Lf.out LG.out
  have ce2 := fun A1 c1 D1 d1 A2 c2 D2 d2 W R R' => eqMd A1 c1 F' D1 d1 G' mem' pages' most' start' A2 c2 D2 d2 W R R' LF'.out Lf'.out LG'.out
  clear hr hF0 hf0 hG0 gF gf gG q0 q1 hr' hF0' hf0' hG0' gF' gf' gG'
  generalize szM F' G' q = q' at *
  have hd' : decide (q' < 0) = false := decide_eq_false z'
  generalize (gsM F G mem pages most start && gsM F' G' mem' pages' most' start') = rb at *
  generalize (rb && allM F F' G G' mem mem' pages pages' most most' start start') = ra at *
  go_enter Try.func8, Try.ntmps8
  go_wp2_with (first | (go_at_call 9; (fail_if_success (have _ := hb2)); have _ := hb1; (with_reducible refine (cz2 _ (by repeat (first | with_reducible first | exact Below.refl _ _ | refine below_alloc ?_ _ | refine below_drew1 ?_ | refine pw_below_drewN ?_ _ | refine below_step ?_ hb1))).mono ?_); rintro e w2 ⟨rfl, hb2⟩; obtain ⟨hc2, hf2⟩ := bcell hb2; obtain ⟨_, _, _, _, _, _, hz2_P⟩ : M6 w.heap.size w2 Af cf F.length Ag cg G.length mem pages most start := M6.below (by constructor <;> first | (go_simp; done) | omega | (simp; omega)) hb2; obtain ⟨_, _, _, _, _, _, hz2_Q⟩ : M6 (w.heap.size + 1) w2 Af' cf' F'.length Ag' cg' G'.length mem' pages' most' start' := M6.below (by constructor <;> first | (go_simp; done) | omega | (simp; omega)) hb2) | (go_at_call 9; (fail_if_success (have _ := hb1)); (with_reducible refine (cz _ (by repeat (first | with_reducible first | exact Below.refl _ _ | refine below_alloc ?_ _ | refine below_drew1 ?_ | refine pw_below_drewN ?_ _))).mono ?_); rintro e w1 ⟨rfl, hb1⟩; obtain ⟨hc1, hf1⟩ := bcell hb1; obtain ⟨_, _, _, _, _, _, hz1_P⟩ : M6 w.heap.size w1 Af cf F.length Ag cg G.length mem pages most start := M6.below (by constructor <;> first | (go_simp; done) | omega | (simp; omega)) hb1; obtain ⟨_, _, _, _, _, _, hz1_Q⟩ : M6 (w.heap.size + 1) w1 Af' cf' F'.length Ag' cg' G'.length mem' pages' most' start' := M6.below (by constructor <;> first | (go_simp; done) | omega | (simp; omega)) hb1))
  go_region_held_law (fun w' => w'.cell? ⟨w.heap.size, 0, none⟩ = some (.slice Af F.length cf) ∧ w'.cell? ⟨w.heap.size, 1, none⟩ = some (.slice Ag G.length cg) ∧ w'.cell? ⟨w.heap.size, 2, none⟩ = some (.bool mem) ∧ w'.cell? ⟨w.heap.size, 3, none⟩ = some (.int .i64 pages) ∧ w'.cell? ⟨w.heap.size, 4, none⟩ = some (.int .i64 most) ∧ w'.cell? ⟨w.heap.size, 5, none⟩ = some (.int .i64 start) ∧ w'.cell? ⟨w.heap.size + 1, 0, none⟩ = some (.slice Af' F'.length cf') ∧ w'.cell? ⟨w.heap.size + 1, 1, none⟩ = some (.slice Ag' G'.length cg') ∧ w'.cell? ⟨w.heap.size + 1, 2, none⟩ = some (.bool mem') ∧ w'.cell? ⟨w.heap.size + 1, 3, none⟩ = some (.int .i64 pages') ∧ w'.cell? ⟨w.heap.size + 1, 4, none⟩ = some (.int .i64 most') ∧ w'.cell? ⟨w.heap.size + 1, 5, none⟩ = some (.int .i64 start')) (refine ⟨?_, ?_, ?_, ?_, ?_, ?_, ?_, ?_, ?_, ?_, ?_, ?_⟩ <;> go_simp) (first | (go_at_call 31; (fail_if_success (have _ := hb5)); have _ := hb4; (with_reducible refine (cs A3 c3 D3 d3 A4 c4 D4 d4 _ (R3.out.below (by repeat (first | with_reducible first | exact Below.refl _ _ | refine below_alloc ?_ _ | refine below_drew1 ?_ | refine pw_below_drewN ?_ _ | refine below_step ?_ hb4))) (R4.out.below (by repeat (first | with_reducible first | exact Below.refl _ _ | refine below_alloc ?_ _ | refine below_drew1 ?_ | refine pw_below_drewN ?_ _)))).mono ?_); rintro e w5 ⟨rfl, hb5⟩; obtain ⟨hc5, hf5⟩ := bcell hb5; obtain ⟨_, _, _, _, _, _, hz5_P⟩ : M6 w.heap.size w5 Af cf F.length Ag cg G.length mem pages most start := M6.below (by constructor <;> first | (go_simp; done) | omega | (simp; omega)) hb5; obtain ⟨_, _, _, _, _, _, hz5_Q⟩ : M6 (w.heap.size + 1) w5 Af' cf' F'.length Ag' cg' G'.length mem' pages' most' start' := M6.below (by constructor <;> first | (go_simp; done) | omega | (simp; omega)) hb5) | (go_at_call 12; (fail_if_success (have _ := hb4)); have _ := hb3; (with_reducible refine (ct2 _ (by repeat (first | with_reducible first | exact Below.refl _ _ | refine below_alloc ?_ _ | refine below_drew1 ?_ | refine pw_below_drewN ?_ _ | refine below_step ?_ hb3 | refine below_step ?_ hb2 | refine below_step ?_ hb1))).mono ?_); rintro e w4 ⟨A4, c4, D4, d4, rfl, R4, hb4⟩; obtain ⟨hc4, hf4⟩ := bcell hb4; obtain ⟨_, _, _, _, _, _, hz4_P⟩ : M6 w.heap.size w4 Af cf F.length Ag cg G.length mem pages most start := M6.below (by constructor <;> first | (go_simp; done) | omega | (simp; omega)) hb4; obtain ⟨_, _, _, _, _, _, hz4_Q⟩ : M6 (w.heap.size + 1) w4 Af' cf' F'.length Ag' cg' G'.length mem' pages' most' start' := M6.below (by constructor <;> first | (go_simp; done) | omega | (simp; omega)) hb4; replace R4 := Aside0.mk R4) | (go_at_call 12; (fail_if_success (have _ := hb3)); have _ := hb2; (with_reducible refine (ct _ (by repeat (first | with_reducible first | exact Below.refl _ _ | refine below_alloc ?_ _ | refine below_drew1 ?_ | refine pw_below_drewN ?_ _ | refine below_step ?_ hb2 | refine below_step ?_ hb1))).mono ?_); rintro e w3 ⟨A3, c3, D3, d3, rfl, R3, hb3⟩; obtain ⟨hc3, hf3⟩ := bcell hb3; obtain ⟨_, _, _, _, _, _, hz3_P⟩ : M6 w.heap.size w3 Af cf F.length Ag cg G.length mem pages most start := M6.below (by constructor <;> first | (go_simp; done) | omega | (simp; omega)) hb3; obtain ⟨_, _, _, _, _, _, hz3_Q⟩ : M6 (w.heap.size + 1) w3 Af' cf' F'.length Ag' cg' G'.length mem' pages' most' start' := M6.below (by constructor <;> first | (go_simp; done) | omega | (simp; omega)) hb3; replace R3 := Aside0.mk R3))
  all_goals
      first | (rename_i kk; refine kk _ _ ?_) | (rename_i kk _; refine kk _ _ ?_) | (rename_i kk _ _; refine kk _ _ ?_) | skip
      go_wp2_with (first | (go_at_call 32; (fail_if_success (have _ := hb8)); have _ := hb7; (with_reducible refine (ci A6 c6 D6 d6 A7 c7 D7 d7 _ (R6.out.below (by repeat (first | with_reducible first | exact Below.refl _ _ | refine below_alloc ?_ _ | refine below_drew1 ?_ | refine pw_below_drewN ?_ _ | refine below_step ?_ hb7))) (R7.out.below (by repeat (first | with_reducible first | exact Below.refl _ _ | refine below_alloc ?_ _ | refine below_drew1 ?_ | refine pw_below_drewN ?_ _)))).mono ?_); rintro e w8 ⟨rfl, hb8⟩; obtain ⟨hc8, hf8⟩ := bcell hb8; obtain ⟨_, _, _, _, _, _, hz8_P⟩ : M6 w.heap.size w8 Af cf F.length Ag cg G.length mem pages most start := M6.below (by constructor <;> first | (go_simp; done) | omega | (simp; omega)) hb8; obtain ⟨_, _, _, _, _, _, hz8_Q⟩ : M6 (w.heap.size + 1) w8 Af' cf' F'.length Ag' cg' G'.length mem' pages' most' start' := M6.below (by constructor <;> first | (go_simp; done) | omega | (simp; omega)) hb8; obtain ⟨_, _, _, _, _, _, hz8_U⟩ : M6 w6.heap.size w8 A6 c6 F.length D6 d6 G.length mem pages most start := M6.below (by constructor <;> first | (go_simp; done) | omega | (simp; omega)) hb8; obtain ⟨_, _, _, _, _, _, hz8_V⟩ : M6 w7.heap.size w8 A7 c7 F'.length D7 d7 G'.length mem' pages' most' start' := M6.below (by constructor <;> first | (go_simp; done) | omega | (simp; omega)) hb8) | (go_at_call 12; (fail_if_success (have _ := hb7)); have _ := hb6; (with_reducible refine (ct2 _ (by repeat (first | with_reducible first | exact Below.refl _ _ | refine below_alloc ?_ _ | refine below_drew1 ?_ | refine pw_below_drewN ?_ _ | refine below_step ?_ hb6 | refine below_step ?_ hb5 | refine below_step ?_ hb4 | refine below_step ?_ hb3 | refine below_step ?_ hb2 | refine below_step ?_ hb1))).mono ?_); rintro e w7 ⟨A7, c7, D7, d7, rfl, R7, hb7⟩; obtain ⟨hc7, hf7⟩ := bcell hb7; obtain ⟨_, _, _, _, _, _, hz7_P⟩ : M6 w.heap.size w7 Af cf F.length Ag cg G.length mem pages most start := M6.below (by constructor <;> first | (go_simp; done) | omega | (simp; omega)) hb7; obtain ⟨_, _, _, _, _, _, hz7_Q⟩ : M6 (w.heap.size + 1) w7 Af' cf' F'.length Ag' cg' G'.length mem' pages' most' start' := M6.below (by constructor <;> first | (go_simp; done) | omega | (simp; omega)) hb7; obtain ⟨_, _, _, _, _, _, hz7_U⟩ : M6 w6.heap.size w7 A6 c6 F.length D6 d6 G.length mem pages most start := M6.below (by constructor <;> first | (go_simp; done) | omega | (simp; omega)) hb7; replace R7 := Aside0.mk R7) | (go_at_call 12; (fail_if_success (have _ := hb6)); have _ := hb5; (with_reducible refine (ct _ (by repeat (first | with_reducible first | exact Below.refl _ _ | refine below_alloc ?_ _ | refine below_drew1 ?_ | refine pw_below_drewN ?_ _ | refine below_step ?_ hb5 | refine below_step ?_ hb4 | refine below_step ?_ hb3 | refine below_step ?_ hb2 | refine below_step ?_ hb1))).mono ?_); rintro e w6 ⟨A6, c6, D6, d6, rfl, R6, hb6⟩; obtain ⟨hc6, hf6⟩ := bcell hb6; obtain ⟨_, _, _, _, _, _, hz6_P⟩ : M6 w.heap.size w6 Af cf F.length Ag cg G.length mem pages most start := M6.below (by constructor <;> first | (go_simp; done) | omega | (simp; omega)) hb6; obtain ⟨_, _, _, _, _, _, hz6_Q⟩ : M6 (w.heap.size + 1) w6 Af' cf' F'.length Ag' cg' G'.length mem' pages' most' start' := M6.below (by constructor <;> first | (go_simp; done) | omega | (simp; omega)) hb6; replace R6 := Aside0.mk R6))
      go_region_held_law (fun w' => w'.cell? ⟨w6.heap.size, 0, none⟩ = some (.slice A6 F.length c6) ∧ w'.cell? ⟨w6.heap.size, 1, none⟩ = some (.slice D6 G.length d6) ∧ w'.cell? ⟨w6.heap.size, 2, none⟩ = some (.bool mem) ∧ w'.cell? ⟨w6.heap.size, 3, none⟩ = some (.int .i64 pages) ∧ w'.cell? ⟨w6.heap.size, 4, none⟩ = some (.int .i64 most) ∧ w'.cell? ⟨w6.heap.size, 5, none⟩ = some (.int .i64 start) ∧ w'.cell? ⟨w.heap.size, 0, none⟩ = some (.slice Af F.length cf) ∧ w'.cell? ⟨w.heap.size, 1, none⟩ = some (.slice Ag G.length cg) ∧ w'.cell? ⟨w.heap.size, 2, none⟩ = some (.bool mem) ∧ w'.cell? ⟨w.heap.size, 3, none⟩ = some (.int .i64 pages) ∧ w'.cell? ⟨w.heap.size, 4, none⟩ = some (.int .i64 most) ∧ w'.cell? ⟨w.heap.size, 5, none⟩ = some (.int .i64 start)) (refine ⟨?_, ?_, ?_, ?_, ?_, ?_, ?_, ?_, ?_, ?_, ?_, ?_⟩ <;> go_simp) (first | (go_at_call 15; (fail_if_success (have _ := hb10)); have _ := hb9; (with_reducible refine (ce A6 c6 D6 d6 A9 c9 D9 d9 _ (R6.out.below (by repeat (first | with_reducible first | exact Below.refl _ _ | refine below_alloc ?_ _ | refine below_drew1 ?_ | refine pw_below_drewN ?_ _ | refine below_step ?_ hb9 | refine below_step ?_ hb8 | refine below_step ?_ hb7))) (R9.out.below (by repeat (first | with_reducible first | exact Below.refl _ _ | refine below_alloc ?_ _ | refine below_drew1 ?_ | refine pw_below_drewN ?_ _)))).mono ?_); rintro e w10 ⟨rfl, hb10⟩; obtain ⟨hc10, hf10⟩ := bcell hb10; obtain ⟨_, _, _, _, _, _, hz10_P⟩ : M6 w.heap.size w10 Af cf F.length Ag cg G.length mem pages most start := M6.below (by constructor <;> first | (go_simp; done) | omega | (simp; omega)) hb10; obtain ⟨_, _, _, _, _, _, hz10_Q⟩ : M6 (w.heap.size + 1) w10 Af' cf' F'.length Ag' cg' G'.length mem' pages' most' start' := M6.below (by constructor <;> first | (go_simp; done) | omega | (simp; omega)) hb10; obtain ⟨_, _, _, _, _, _, hz10_U⟩ : M6 w6.heap.size w10 A6 c6 F.length D6 d6 G.length mem pages most start := M6.below (by constructor <;> first | (go_simp; done) | omega | (simp; omega)) hb10; obtain ⟨_, _, _, _, _, _, hz10_V⟩ : M6 w7.heap.size w10 A7 c7 F'.length D7 d7 G'.length mem' pages' most' start' := M6.below (by constructor <;> first | (go_simp; done) | omega | (simp; omega)) hb10) | (go_at_call 12; (fail_if_success (have _ := hb9)); have _ := hb8; (with_reducible refine (ct _ (by repeat (first | with_reducible first | exact Below.refl _ _ | refine below_alloc ?_ _ | refine below_drew1 ?_ | refine pw_below_drewN ?_ _ | refine below_step ?_ hb8 | refine below_step ?_ hb7 | refine below_step ?_ hb6 | refine below_step ?_ hb5 | refine below_step ?_ hb4 | refine below_step ?_ hb3 | refine below_step ?_ hb2 | refine below_step ?_ hb1))).mono ?_); rintro e w9 ⟨A9, c9, D9, d9, rfl, R9, hb9⟩; obtain ⟨hc9, hf9⟩ := bcell hb9; obtain ⟨_, _, _, _, _, _, hz9_P⟩ : M6 w.heap.size w9 Af cf F.length Ag cg G.length mem pages most start := M6.below (by constructor <;> first | (go_simp; done) | omega | (simp; omega)) hb9; obtain ⟨_, _, _, _, _, _, hz9_Q⟩ : M6 (w.heap.size + 1) w9 Af' cf' F'.length Ag' cg' G'.length mem' pages' most' start' := M6.below (by constructor <;> first | (go_simp; done) | omega | (simp; omega)) hb9; obtain ⟨_, _, _, _, _, _, hz9_U⟩ : M6 w6.heap.size w9 A6 c6 F.length D6 d6 G.length mem pages most start := M6.below (by constructor <;> first | (go_simp; done) | omega | (simp; omega)) hb9; obtain ⟨_, _, _, _, _, _, hz9_V⟩ : M6 w7.heap.size w9 A7 c7 F'.length D7 d7 G'.length mem' pages' most' start' := M6.below (by constructor <;> first | (go_simp; done) | omega | (simp; omega)) hb9; replace R9 := Aside0.mk R9))
      all_goals
        first | (rename_i kk; refine kk _ _ ?_) | (rename_i kk _; refine kk _ _ ?_) | (rename_i kk _ _; refine kk _ _ ?_) | skip
        go_wp2_with fail
        go_region_held_law (fun w' => w'.cell? ⟨w7.heap.size, 0, none⟩ = some (.slice A7 F'.length c7) ∧ w'.cell? ⟨w7.heap.size, 1, none⟩ = some (.slice D7 G'.length d7) ∧ w'.cell? ⟨w7.heap.size, 2, none⟩ = some (.bool mem') ∧ w'.cell? ⟨w7.heap.size, 3, none⟩ = some (.int .i64 pages') ∧ w'.cell? ⟨w7.heap.size, 4, none⟩ = some (.int .i64 most') ∧ w'.cell? ⟨w7.heap.size, 5, none⟩ = some (.int .i64 start') ∧ w'.cell? ⟨w.heap.size + 1, 0, none⟩ = some (.slice Af' F'.length cf') ∧ w'.cell? ⟨w.heap.size + 1, 1, none⟩ = some (.slice Ag' G'.length cg') ∧ w'.cell? ⟨w.heap.size + 1, 2, none⟩ = some (.bool mem') ∧ w'.cell? ⟨w.heap.size + 1, 3, none⟩ = some (.int .i64 pages') ∧ w'.cell? ⟨w.heap.size + 1, 4, none⟩ = some (.int .i64 most') ∧ w'.cell? ⟨w.heap.size + 1, 5, none⟩ = some (.int .i64 start')) (refine ⟨?_, ?_, ?_, ?_, ?_, ?_, ?_, ?_, ?_, ?_, ?_, ?_⟩ <;> go_simp) (first | (go_at_call 15; (fail_if_success (have _ := hb12)); have _ := hb11; (with_reducible refine (ce2 A7 c7 D7 d7 A11 c11 D11 d11 _ (R7.out.below (by repeat (first | with_reducible first | exact Below.refl _ _ | refine below_alloc ?_ _ | refine below_drew1 ?_ | refine pw_below_drewN ?_ _ | refine below_step ?_ hb11 | refine below_step ?_ hb10 | refine below_step ?_ hb9 | refine below_step ?_ hb8))) (R11.out.below (by repeat (first | with_reducible first | exact Below.refl _ _ | refine below_alloc ?_ _ | refine below_drew1 ?_ | refine pw_below_drewN ?_ _)))).mono ?_); rintro e w12 ⟨rfl, hb12⟩; obtain ⟨hc12, hf12⟩ := bcell hb12; obtain ⟨_, _, _, _, _, _, hz12_P⟩ : M6 w.heap.size w12 Af cf F.length Ag cg G.length mem pages most start := M6.below (by constructor <;> first | (go_simp; done) | omega | (simp; omega)) hb12; obtain ⟨_, _, _, _, _, _, hz12_Q⟩ : M6 (w.heap.size + 1) w12 Af' cf' F'.length Ag' cg' G'.length mem' pages' most' start' := M6.below (by constructor <;> first | (go_simp; done) | omega | (simp; omega)) hb12; obtain ⟨_, _, _, _, _, _, hz12_U⟩ : M6 w6.heap.size w12 A6 c6 F.length D6 d6 G.length mem pages most start := M6.below (by constructor <;> first | (go_simp; done) | omega | (simp; omega)) hb12; obtain ⟨_, _, _, _, _, _, hz12_V⟩ : M6 w7.heap.size w12 A7 c7 F'.length D7 d7 G'.length mem' pages' most' start' := M6.below (by constructor <;> first | (go_simp; done) | omega | (simp; omega)) hb12) | (go_at_call 12; (fail_if_success (have _ := hb11)); have _ := hb10; (with_reducible refine (ct2 _ (by repeat (first | with_reducible first | exact Below.refl _ _ | refine below_alloc ?_ _ | refine below_drew1 ?_ | refine pw_below_drewN ?_ _ | refine below_step ?_ hb10 | refine below_step ?_ hb9 | refine below_step ?_ hb8 | refine below_step ?_ hb7 | refine below_step ?_ hb6 | refine below_step ?_ hb5 | refine below_step ?_ hb4 | refine below_step ?_ hb3 | refine below_step ?_ hb2 | refine below_step ?_ hb1))).mono ?_); rintro e w11 ⟨A11, c11, D11, d11, rfl, R11, hb11⟩; obtain ⟨hc11, hf11⟩ := bcell hb11; obtain ⟨_, _, _, _, _, _, hz11_P⟩ : M6 w.heap.size w11 Af cf F.length Ag cg G.length mem pages most start := M6.below (by constructor <;> first | (go_simp; done) | omega | (simp; omega)) hb11; obtain ⟨_, _, _, _, _, _, hz11_Q⟩ : M6 (w.heap.size + 1) w11 Af' cf' F'.length Ag' cg' G'.length mem' pages' most' start' := M6.below (by constructor <;> first | (go_simp; done) | omega | (simp; omega)) hb11; obtain ⟨_, _, _, _, _, _, hz11_U⟩ : M6 w6.heap.size w11 A6 c6 F.length D6 d6 G.length mem pages most start := M6.below (by constructor <;> first | (go_simp; done) | omega | (simp; omega)) hb11; obtain ⟨_, _, _, _, _, _, hz11_V⟩ : M6 w7.heap.size w11 A7 c7 F'.length D7 d7 G'.length mem' pages' most' start' := M6.below (by constructor <;> first | (go_simp; done) | omega | (simp; omega)) hb11; replace R11 := Aside0.mk R11))
        all_goals
          first | (rename_i kk; refine kk _ _ ?_) | (rename_i kk _; refine kk _ _ ?_) | (rename_i kk _ _; refine kk _ _ ?_) | skip
          go_wp2
          refine bodyPost_ret (v := .bool true) (by simp [results, Try.results8, go_sem, hc1, hf1, hz1_P, hz1_Q, hc2, hf2, hz2_P, hz2_Q, hc3, hf3, hz3_P, hz3_Q, hc4, hf4, hz4_P, hz4_Q, hc5, hf5, hz5_P, hz5_Q, hc6, hf6, hz6_P, hz6_Q, hc7, hf7, hz7_P, hz7_Q, hc8, hf8, hz8_P, hz8_Q, hc9, hf9, hz9_P, hz9_Q, hc10, hf10, hz10_P, hz10_Q, hc11, hf11, hz11_P, hz11_Q, hc12, hf12, hz12_P, hz12_Q, hz7_U, hz8_U, hz9_U, hz10_U, hz11_U, hz12_U, hz8_V, hz9_V, hz10_V, hz11_V, hz12_V]) rfl ⟨rfl, ?_⟩
          exact (by repeat (first | with_reducible first | exact Below.refl _ _ | refine below_alloc ?_ _ | refine below_drew1 ?_ | refine pw_below_drewN ?_ _ | refine below_step ?_ hb12 | refine below_step ?_ hb11 | refine below_step ?_ hb10 | refine below_step ?_ hb9 | refine below_step ?_ hb8 | refine below_step ?_ hb7 | refine below_step ?_ hb6 | refine below_step ?_ hb5 | refine below_step ?_ hb4 | refine below_step ?_ hb3 | refine below_step ?_ hb2 | refine below_step ?_ hb1))
end Go.Proofs.Ytfhnffondamhdaa.OwnSmL
