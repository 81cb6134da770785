/- How deep a body is, the program's side: a walk of our own. How deep a body is: both sides tell one thing; plain lemmas over what the walks compute. DeepestOf: both sides and the law, by walks of our own. -/
import Derived.Test.YtfncjcnlndoelaaOwnSt
import Derived.Test.YtfncjcnlndoelaaOwnCode
import Derived.Test.YtfncjcnlndoelaaPopensx1
import Derived.Test.YtfncjcnlndoelaaOwnEndsS
import Derived.Test.YtfncjcnlndoelaaOwnInsS
namespace Go.Proofs.Ytfncjcnlndoelaa.OwnDeep
open Go Go.RowKit Go.Proofs.YtfncjcnlndoelaaW.PrintWords Go.Proofs.YtfncjcnlndoelaaW.PrintLast Go.Proofs.YtfncjcnlndoelaaW.PrintMore Go.Proofs.Ytfncjcnlndoelaa.OwnBs Go.Proofs.Ytfncjcnlndoelaa.OwnKp Go.Proofs.Ytfncjcnlndoelaa.OwnCode Go.Proofs.Ytfncjcnlndoelaa.OwnSt
attribute [local go_sem] max2_int min2_int max_two min_two
set_option linter.unusedVariables false
set_option linter.unusedSimpArgs false
def opnB (x : Int) : Bool := decide (x = 2 ∨ x = 3 ∨ x = 4)
theorem opens_i (x : Int) (w : World) : Calls Try.prog 83 #[.int .i64 x] w fun e w' => e = .returned (.bool (opnB x)) ∧ ∃ n, w' = w.drewN n :=
  (Popens.impl_opens.calls x (opnB x) w (by
    unfold Popens.impl_opens.f opnB
    by_cases h1 : x = 2
    · rw [if_pos h1, decide_eq_true (.inl h1)]
    · rw [if_neg h1]
      by_cases h2 : x = 3
      · rw [if_pos h2, decide_eq_true (.inr (.inl h2))]
      · rw [if_neg h2]; simp only [Option.some.injEq]; show decide (x = 4) = _; rw [decide_eq_decide]; omega)).mono fun e w' h => ⟨h.1, h.2.out⟩
/-- The blocks around, and how many there were at most. -/
def stepD (x : Int) (s : List Int × Nat) : Option (List Int × Nat) :=
  if s.1.length = 0 then none
  else if x = 2 ∨ x = 3 ∨ x = 4 then some (s.1 ++ [x], if s.2 < s.1.length + 1 then s.1.length + 1 else s.2)
  else if x = 5 then (if s.1.getD (s.1.length - 1) 0 = 4 then some (s.1.set (s.1.length - 1) 5, s.2) else none)
  else if x = 11 then some (s.1.take (s.1.length - 1), s.2)
  else some s
def runD : List (Int × Int) → List Int × Nat → Option (List Int × Nat)
  | [], s => some s
  | x :: xs, s => (stepD x.1 s).bind (runD xs)
def resD : Option (List Int × Nat) → Nat
  | none => 0
  | some s => if 0 < s.1.length then 0 else s.2
def deepM (l : List (Int × Int)) : Nat := if goodC l = true then resD (runD l ([2], 1)) else 0
theorem stepD_bd {x : Int} {s s' : List Int × Nat} {i : Nat} (h : stepD x s = some s') (h1 : s.1.length ≤ i + 1) (h2 : s.2 ≤ i + 1) : s'.1.length ≤ i + 2 ∧ s'.2 ≤ i + 2 := by
  unfold stepD at h
  split at h
  · cases h
  · split at h
    · injection h with h; subst h; simp only [List.length_append, List.length_singleton]; refine ⟨by omega, ?_⟩; split <;> omega
    · split at h
      · split at h
        · injection h with h; subst h; simp only [List.length_set]; omega
        · cases h
      · split at h
        · injection h with h; subst h; simp only [List.length_take]; omega
        · injection h with h; subst h; omega
set_option maxRecDepth 100000 in
set_option maxHeartbeats 20000000 in
theorem deep_yes (A : Option Addr) (c : Nat) (l : List (Int × Int)) (w : World) (hr : Kd.C kI w A l.length l) (hc : l.length ≤ c) (g : goodC l = true) (R : Option (List Int × Nat)) (hRun : runD l ([2], 1) = R) (res : Nat) (hres : res = resD R) : Calls Try.prog 58 #[.slice A l.length c] w fun e w' => e = .returned (.int .i64 (res : Nat)) ∧ Below w.heap.size w w' := by
  have hl2 := goodC_len g
  have cg := fun w hr => good_i A c l w hr hc (by omega)
  have HR := Aside0.mk hr
  have HRun := Aside0.mk hRun
  have HRes := Aside0.mk hres
  rw [g] at cg
  clear hr g hRun hres
  go_enter Try.func58, Try.ntmps58
  go_wp2_with fail
  refine (cg _ HR.out).mono ?_
  rintro e w1 ⟨rfl, B1⟩
  clear cg
  have S0 := St.init1 B1 2
  go_wp2_with fail
  go_loopg [3, 4, 14] l.length (fun kq v3 v4 v14 w' => ∃ (i : Nat) (a : List Int) (m : Nat), i + kq = l.length ∧ v4 = .int .i64 m ∧ v14 = .int .i64 i ∧ St w w' (.slice none 0 0) v3 (.slice none 0 0) (.slice none 0 0) [] a [] [] ∧ Aside0 (a.length ≤ i + 1 ∧ m ≤ i + 1) ∧ Aside0 (runD (l.drop i) (a, m) = R))
  case atStart => exact ⟨0, [2], 1, by omega, rfl, rfl, S0, ⟨by simp, by simp⟩, HRun⟩
  case round =>
    clear S0 B1 HRun
    obtain ⟨i, a, m, hi, rfl, rfl, HS, HI, HQ⟩ := hrel
    cases gk with
    | zero =>
      obtain rfl : i = l.length := by omega
      have hq := HQ.out
      rw [List.drop_length] at hq
      have hre := HRes.out
      rw [← hq] at hre
      simp only [runD, resD] at hre
      have hd : decide ((l.length : Int) < (l.length : Int)) = false := decide_eq_false (by omega)
      obtain ⟨A3, c3, ef⟩ := HS.op_form
      subst ef
      clear hq HQ HRes HI
      by_cases hp : 0 < a.length
      · rw [if_pos hp] at hre
        subst hre
        go_wp2
        go_ret
        exact ⟨rfl, HS.bel⟩
      · rw [if_neg hp] at hre
        subst hre
        have hp0 : a.length ≤ 0 := by omega
        go_wp2
        go_ret
        exact ⟨rfl, HS.bel⟩
    | succ k1 =>
      have hil : i < l.length := by omega
      have hd : decide ((i : Int) < (l.length : Int)) = true := decide_eq_true (by omega)
      obtain ⟨ad, e, hx0, hx1⟩ := at_ins HR.out i hil
      subst e
      replace hx0 := (HS.bel.cell (World.block_lt_of_cell? w _ hx0)).trans hx0
      replace hx1 := (HS.bel.cell (World.block_lt_of_cell? w _ hx1)).trans hx1
      have HQ2 : Aside0 ((stepD l[i].1 (a, m)).bind (runD (l.drop (i + 1))) = R) := ⟨by have := HQ.out; rwa [List.drop_eq_getElem_cons hil] at this⟩
      have HV : Aside0 (∀ s', stepD l[i].1 (a, m) = some s' → s'.1.length ≤ i + 2 ∧ s'.2 ≤ i + 2) := ⟨fun s' hs => stepD_bd hs HI.out.1 HI.out.2⟩
      clear HQ
      generalize l[i].1 = x at *
      generalize l[i].2 = y at *
      obtain ⟨b1, b2⟩ := HI.out
      clear HI
      by_cases c0 : a.length = 0
      · have hn : stepD x (a, m) = none := by unfold stepD; rw [if_pos c0]
        have hq := HQ2.out
        rw [hn] at hq
        have hre := HRes.out
        rw [← hq] at hre
        simp only [Option.bind_none, resD] at hre
        subst hre
        obtain ⟨A3, c3, ef⟩ := HS.op_form
        subst ef
        have c0i : (a.length : Int) = 0 := by omega
        clear hq HQ2 HV hn c0
        go_wp2
        go_ret
        exact ⟨rfl, below_alloc HS.bel _⟩
      · obtain ⟨gp, cp, f1, m1⟩ := HS.op_pos (by omega)
        subst f1
        have HX := HS.alloc (.cells #[.int .i64 x, .int .i64 y] 86)
        obtain ⟨d, hdd⟩ : ∃ d, a.length = d + 1 := ⟨a.length - 1, by omega⟩
        have en : (a.length : Int) - 1 = (d : Int) := by omega
        have ew : IntKind.i64.wrap ((a.length : Int) - 1) = (d : Int) := by rw [IntKind.wrap_i64]; omega
        have hd2 : d < a.length := by omega
        have hd3 : (d : Int) < (a.length : Int) := by omega
        have ed : Aside0 (a.length - 1 = d) := ⟨by omega⟩
        have l0 : 0 < a.length := by omega
        have n1 : a.length ≤ 1000 := by omega
        have n2 : m ≤ 1000 := by omega
        have co := fun w => opens_i x w
        clear HS hdd
        by_cases c1 : x = 2 ∨ x = 3 ∨ x = 4
        · have ho : opnB x = true := by unfold opnB; rw [decide_eq_true c1]
          rw [ho] at co
          clear ho
          by_cases cd : m < a.length + 1
          · skip
            have hstep : stepD x (a, m) = some (a ++ [x], a.length + 1) := by
              unfold stepD
              simp only [if_neg c0, if_pos c1, if_pos cd]
            have hq := HQ2.out
            rw [hstep] at hq
            simp only [Option.bind_some] at hq
            have HQ3 := Aside0.mk hq
            have HV3 := Aside0.mk (HV.out _ hstep)
            clear hq HQ2 HV hstep
            have HY := fun n => (HX.below (pw_below_drewN (Below.refl _ _) n))
            go_wp2_with (first | (go_at_call 83; (with_reducible refine (co _).mono ?_); rintro e w2 ⟨rfl, n, rfl⟩) | (at_builtin; refine (HY n).app_open x (by omega) rfl _ _ rfl rfl _ rfl (by simp) ?_; intro v1 u1 H1 K1; obtain ⟨Ap, fp, ep⟩ := St.op_form H1; subst ep; rw [List.length_append] at H1))
            go_roundg k1
            case measure => omega
            case rel => exact ⟨i + 1, _, _, by omega, by rw [Int.natCast_add]; rfl, by rw [Int.natCast_add]; rfl, H1, HV3, HQ3⟩
          · skip
            have hstep : stepD x (a, m) = some (a ++ [x], m) := by
              unfold stepD
              simp only [if_neg c0, if_pos c1, if_neg cd]
            have hq := HQ2.out
            rw [hstep] at hq
            simp only [Option.bind_some] at hq
            have HQ3 := Aside0.mk hq
            have HV3 := Aside0.mk (HV.out _ hstep)
            clear hq HQ2 HV hstep
            have HY := fun n => (HX.below (pw_below_drewN (Below.refl _ _) n))
            go_wp2_with (first | (go_at_call 83; (with_reducible refine (co _).mono ?_); rintro e w2 ⟨rfl, n, rfl⟩) | (at_builtin; refine (HY n).app_open x (by omega) rfl _ _ rfl rfl _ rfl (by simp) ?_; intro v1 u1 H1 K1; obtain ⟨Ap, fp, ep⟩ := St.op_form H1; subst ep; rw [List.length_append] at H1))
            go_roundg k1
            case measure => omega
            case rel => exact ⟨i + 1, _, _, by omega, rfl, by rw [Int.natCast_add]; rfl, H1, HV3, HQ3⟩
        · have ho : opnB x = false := by unfold opnB; rw [decide_eq_false c1]
          rw [ho] at co
          clear ho
          by_cases c5 : x = 5
          · subst c5
            obtain ⟨v0, v1⟩ := HX.op_cell d hd2
            have hed : a.getD d 0 = a[d] := by rw [List.getD_eq_getElem?_getD, List.getElem?_eq_getElem hd2]; rfl
            generalize hb : a[d] = b at *
            clear hb
            by_cases hb4 : b = 4
            · subst hb4
              have hstep : stepD 5 (a, m) = some (a.set d 5, m) := by
                unfold stepD
                simp only [if_neg c0, if_neg c1, if_true, ed.out, hed]
              have hq := HQ2.out
              rw [hstep] at hq
              simp only [Option.bind_some] at hq
              have HQ3 := Aside0.mk hq
              have HV3 := Aside0.mk (HV.out _ hstep)
              clear hq HQ2 HV hstep
              clear hed
              have H1 := HX.set_op d 5
              have H2 := fun n => H1.below (pw_below_drewN (Below.refl _ _) n)
              go_wp2_with (go_at_call 83; (with_reducible refine (co _).mono ?_); rintro e w2 ⟨rfl, n, rfl⟩)
              go_roundg k1
              case measure => omega
              case rel => exact ⟨i + 1, _, _, by omega, rfl, by rw [Int.natCast_add]; rfl, H2 n, HV3, HQ3⟩
            · have hn : stepD 5 (a, m) = none := by unfold stepD; simp only [if_neg c0, if_neg c1, if_true, ed.out, hed, if_neg hb4]
              have hq := HQ2.out
              rw [hn] at hq
              have hre := HRes.out
              rw [← hq] at hre
              simp only [Option.bind_none, resD] at hre
              subst hre
              have hb5 : (b != 4) = true := bne_iff_ne.2 hb4
              clear hq HQ2 HV hn hed
              go_wp2_with (go_at_call 83; (with_reducible refine (co _).mono ?_); rintro e w2 ⟨rfl, n, rfl⟩)
              go_ret
              exact ⟨rfl, pw_below_drewN HX.bel _⟩
          · by_cases c11 : x = 11
            · subst c11
              have hstep : stepD 11 (a, m) = some (a.take d, m) := by
                unfold stepD
                simp only [if_neg c0, if_neg c1, if_neg c5, if_true, ed.out]
              have hq := HQ2.out
              rw [hstep] at hq
              simp only [Option.bind_some] at hq
              have HQ3 := Aside0.mk hq
              have HV3 := Aside0.mk (HV.out _ hstep)
              clear hq HQ2 HV hstep
              have r1 : (d : Int) ≤ (cp : Int) := by omega
              have H2 := fun n => (HX.take_op (m := d) (by omega)).below (pw_below_drewN (Below.refl _ _) n)
              go_wp2_with (go_at_call 83; (with_reducible refine (co _).mono ?_); rintro e w2 ⟨rfl, n, rfl⟩)
              go_roundg k1
              case measure => omega
              case rel => exact ⟨i + 1, _, _, by omega, rfl, by rw [Int.natCast_add]; rfl, H2 n, HV3, HQ3⟩
            · skip
              have hstep : stepD x (a, m) = some (a, m) := by
                unfold stepD
                simp only [if_neg c0, if_neg c1, if_neg c5, if_neg c11]
              have hq := HQ2.out
              rw [hstep] at hq
              simp only [Option.bind_some] at hq
              have HQ3 := Aside0.mk hq
              have HV3 := Aside0.mk (HV.out _ hstep)
              clear hq HQ2 HV hstep
              have H2 := fun n => HX.below (pw_below_drewN (Below.refl _ _) n)
              go_wp2_with (go_at_call 83; (with_reducible refine (co _).mono ?_); rintro e w2 ⟨rfl, n, rfl⟩)
              go_roundg k1
              case measure => omega
              case rel => exact ⟨i + 1, _, _, by omega, rfl, by rw [Int.natCast_add]; rfl, H2 n, HV3, HQ3⟩
theorem deep_i (A : Option Addr) (c : Nat) (l : List (Int × Int)) (w : World) (hr : Kd.C kI w A l.length l) (hc : l.length ≤ c) (hl : l.length ≤ 1048576) : Calls Try.prog 58 #[.slice A l.length c] w fun e w' => e = .returned (.int .i64 (deepM l : Nat)) ∧ Below w.heap.size w w' := by
  by_cases g : goodC l = true
  · have e : deepM l = resD (runD l ([2], 1)) := by unfold deepM; rw [if_pos g]
    rw [e]
    exact deep_yes A c l w hr hc g _ rfl _ rfl
  · have e : deepM l = 0 := by unfold deepM; rw [if_neg g]
    rw [e]
    have cg := fun w hr => good_i A c l w hr hc hl
    rw [Bool.eq_false_iff.2 g] at cg
    have HR := Aside0.mk hr
    clear g hr e
    go_enter Try.func58, Try.ntmps58
    go_wp2_with fail
    refine (cg _ HR.out).mono ?_
    rintro e w1 ⟨rfl, B1⟩
    go_wp2_with fail
    go_ret
    exact ⟨rfl, B1⟩

end Go.Proofs.Ytfncjcnlndoelaa.OwnDeep
namespace Go.Proofs.Ytfncjcnlndoelaa.OwnDeepEq
open Go Go.RowKit Go.Proofs.YtfncjcnlndoelaaW.PrintWords Go.Proofs.YtfncjcnlndoelaaW.PrintLast Go.Proofs.YtfncjcnlndoelaaW.PrintMore Go.Proofs.Ytfncjcnlndoelaa.OwnBs Go.Proofs.Ytfncjcnlndoelaa.OwnKp Go.Proofs.Ytfncjcnlndoelaa.OwnCode Go.Proofs.Ytfncjcnlndoelaa.OwnSt Go.Proofs.Ytfncjcnlndoelaa.OwnEndsS Go.Proofs.Ytfncjcnlndoelaa.OwnDeep
set_option linter.unusedVariables false
set_option linter.unusedSimpArgs false
def RelE (s : EndSt) (a : List Int) (m : Nat) : Prop := s.els = a.map (fun k => k != 4) ∧ s.op.length = a.length ∧ s.deep = m ∧ 1 ≤ m
def BothE : Option EndSt → Option (List Int × Nat) → Prop
  | none, none => True
  | some s, some r => RelE s r.1 r.2
  | _, _ => False
theorem getD_map_ne (a : List Int) (d : Nat) (h : d < a.length) : (a.map (fun k => k != 4)).getD d false = (a.getD d 0 != 4) := by
  simp [List.getD_eq_getElem?_getD, List.getElem?_eq_getElem h]
theorem step_both (i : Nat) (x : Int) (s : EndSt) (a : List Int) (m : Nat) (h : RelE s a m) : BothE (stepE i x s) (stepD x (a, m)) := by
  obtain ⟨h1, h2, h3, h4⟩ := h
  unfold stepE stepD
  by_cases c0 : a.length = 0
  · rw [if_pos (by omega), if_pos c0]; trivial
  · rw [if_neg (by omega), if_neg c0]
    by_cases c1 : x = 2 ∨ x = 3 ∨ x = 4
    · rw [if_pos c1, if_pos c1]
      refine ⟨?_, by simp [h2], ?_, ?_⟩
      · show s.els ++ [x != 4] = (a ++ [x]).map _
        rw [List.map_append, h1]; rfl
      · show (if _ then _ else _) = (if _ then _ else _)
        rw [h2, h3]
      · show 1 ≤ (if m < a.length + 1 then a.length + 1 else m)
        split <;> omega
    · rw [if_neg c1, if_neg c1]
      have hg : s.els.getD (s.op.length - 1) false = (a.getD (a.length - 1) 0 != 4) := by rw [h1, h2]; exact getD_map_ne a _ (by omega)
      by_cases c5 : x = 5
      · subst c5
        rw [if_pos rfl]
        by_cases h4 : a.getD (a.length - 1) 0 = 4
        · rw [if_neg (by rw [hg, h4]; decide), if_pos h4]
          simp only [if_true, show ((5 : Int) = 11) = False by decide, if_false]
          refine ⟨?_, by simp [h2], h3, by assumption⟩
          show s.els.set _ true = (a.set _ 5).map _
          rw [List.map_set, h1, h2]; rfl
        · rw [if_pos ⟨rfl, by rw [hg]; simpa using h4⟩, if_neg h4]; trivial
      · rw [if_neg (fun h => c5 h.1), if_neg c5]
        by_cases c11 : x = 11
        · simp only [if_neg c5, if_pos c11]
          refine ⟨?_, ?_, h3, h4⟩
          · show s.els.take _ = (a.take _).map _
            rw [List.map_take, h1, h2]
          · show (s.op.take _).length = (a.take _).length
            rw [List.length_take, List.length_take, h2]
        · simp only [if_neg c5, if_neg c11]
          exact ⟨h1, h2, h3, h4⟩
theorem run_both : ∀ (l : List (Int × Int)) (i : Nat) (s : EndSt) (a : List Int) (m : Nat), RelE s a m → BothE (runE l i s) (runD l (a, m))
  | [], i, s, a, m, h => h
  | x :: xs, i, s, a, m, h => by
    have hb := step_both i x.1 s a m h
    unfold runE runD
    cases hE : stepE i x.1 s with
    | none =>
      cases hD : stepD x.1 (a, m) with
      | none => trivial
      | some r => rw [hE, hD] at hb; exact hb.elim
    | some s' =>
      cases hD : stepD x.1 (a, m) with
      | none => rw [hE, hD] at hb; exact hb.elim
      | some r =>
        rw [hE, hD] at hb
        exact run_both xs (i + 1) s' r.1 r.2 hb
/-- What the program tells is what the reference tells. -/
theorem deep_ends (l : List (Int × Int)) : deepM l = (if (endsM l).2.2 = true then (endsM l).2.1 else 0) ∧ ((endsM l).2.2 = true → 1 ≤ (endsM l).2.1) := by
  unfold deepM
  by_cases g : goodC l = true
  · rw [if_pos g]
    by_cases e : l = []
    · have e1 : endsM l = ([], 0, false) := by unfold endsM; exact if_neg (fun h => h.2 e)
      rw [e1]
      subst e
      exact ⟨rfl, fun h => by cases h⟩
    · have e1 : endsM l = resE (runE l 0 (iniE l.length)) := by unfold endsM; exact if_pos ⟨g, e⟩
      rw [e1]
      have hb := run_both l 0 (iniE l.length) [2] 1 ⟨rfl, rfl, rfl, Nat.le_refl _⟩
      cases hE : runE l 0 (iniE l.length) with
      | none =>
        cases hD : runD l ([2], 1) with
        | none => exact ⟨rfl, fun h => by cases h⟩
        | some r => rw [hE, hD] at hb; exact hb.elim
      | some s =>
        cases hD : runD l ([2], 1) with
        | none => rw [hE, hD] at hb; exact hb.elim
        | some r =>
          rw [hE, hD] at hb
          obtain ⟨_, h2, h3, h4⟩ := hb
          by_cases hp : 0 < r.1.length
          · have : (s.op.length == 0) = false := beq_eq_false_iff_ne.2 (by omega)
            have e2 : resE (some s) = (s.out, s.deep, false) := by show (s.out, s.deep, s.op.length == 0) = _; rw [this]
            have e3 : resD (some r) = 0 := if_pos hp
            rw [e2, e3]
            exact ⟨rfl, fun h => by cases h⟩
          · have : (s.op.length == 0) = true := beq_iff_eq.2 (by omega)
            have e2 : resE (some s) = (s.out, s.deep, true) := by show (s.out, s.deep, s.op.length == 0) = _; rw [this]
            have e3 : resD (some r) = r.2 := if_neg hp
            rw [e2, e3, if_pos rfl, ← h3]
            exact ⟨rfl, fun _ => by rw [h3]; exact h4⟩
  · have e1 : endsM l = ([], 0, false) := by unfold endsM; exact if_neg (fun h => g h.1)
    rw [if_neg g, e1]
    exact ⟨rfl, fun h => by cases h⟩
theorem ends_s (A : Option Addr) (c : Nat) (l : List (Int × Int)) (w : World) (hr : Kd.C kI w A l.length l) (hc : l.length ≤ c) (hl : l.length ≤ 1048576) : Calls Try.prog 56 #[.slice A l.length c] w (EndsPost w (endsM l)) := by
  by_cases g : goodC l = true ∧ l ≠ []
  · have e : endsM l = resE (runE l 0 (iniE l.length)) := by unfold endsM; rw [if_pos g]
    rw [e]
    exact ends_yes A c l w hr hc g.1 g.2 _ rfl _ rfl
  · have e : endsM l = ([], 0, false) := by unfold endsM; rw [if_neg g]
    rw [e]
    refine ends_no A c l w hr hc hl ?_
    by_cases h : goodC l = true
    · exact .inr (Classical.byContradiction fun h2 => g ⟨h, h2⟩)
    · exact .inl (Bool.eq_false_iff.2 h)
end Go.Proofs.Ytfncjcnlndoelaa.OwnDeepEq
namespace Go.Proofs.Ytfncjcnlndoelaa.OwnDeepLaw
open Go Go.RowKit Go.Proofs.YtfncjcnlndoelaaW.PrintWords Go.Proofs.YtfncjcnlndoelaaW.PrintLast Go.Proofs.YtfncjcnlndoelaaW.PrintMore Go.Proofs.Ytfncjcnlndoelaa.OwnBs Go.Proofs.Ytfncjcnlndoelaa.OwnKp Go.Proofs.Ytfncjcnlndoelaa.OwnCode Go.Proofs.Ytfncjcnlndoelaa.OwnSt Go.Proofs.Ytfncjcnlndoelaa.OwnEndsS Go.Proofs.Ytfncjcnlndoelaa.OwnDeep Go.Proofs.Ytfncjcnlndoelaa.OwnDeepEq Go.Proofs.Ytfncjcnlndoelaa.OwnInsS
set_option linter.unusedVariables false
set_option linter.unusedSimpArgs false
/-- What DeepestOf tells. -/
def dpM (l : List (Int × Int)) : Nat × Bool := if (endsM l).2.2 = true then ((endsM l).2.1, true) else (0, false)
theorem spec_DeepestOf (A : Option Addr) (c : Nat) (l : List (Int × Int)) (w : World) (hr : Kd.C kI w A l.length l) (hc : l.length ≤ c) (hl : l.length ≤ 1048576) (hw : ∀ p ∈ l, -9223372036854775808 ≤ p.2 ∧ p.2 < 9223372036854775808) : Calls Try.prog 22 #[.slice A l.length c] w fun e w' => e = .returned (.tuple #[.int .i64 (dpM l).1, .bool (dpM l).2]) ∧ Below w.heap.size w w' := by
  have HR := Aside0.mk hr
  have ce := fun w hr => ends_s A c l w hr hc hl
  unfold dpM
  clear hr hw
  generalize endsM l = r at *
  obtain ⟨out, dp, ok⟩ := r
  cases ok with
  | true =>
    go_enter Try.func22, Try.ntmps22
    go_wp2_with fail
    refine (ce _ HR.out).mono ?_
    rintro e w1 ⟨v, rfl, _, B1⟩
    go_wp2_with fail
    go_ret2
    exact ⟨rfl, B1⟩
  | false =>
    go_enter Try.func22, Try.ntmps22
    go_wp2_with fail
    refine (ce _ HR.out).mono ?_
    rintro e w1 ⟨v, rfl, _, B1⟩
    go_wp2_with fail
    go_ret2
    exact ⟨rfl, B1⟩
theorem impl_DeepestOf (A : Option Addr) (c : Nat) (l : List (Int × Int)) (w : World) (hr : Kd.C kI w A l.length l) (hc : l.length ≤ c) (hl : l.length ≤ 1048576) (hw : ∀ p ∈ l, -9223372036854775808 ≤ p.2 ∧ p.2 < 9223372036854775808) : Calls Try.prog 24 #[.slice A l.length c] w fun e w' => e = .returned (.tuple #[.int .i64 (dpM l).1, .bool (dpM l).2]) ∧ Below w.heap.size w w' := by
  have HR := Aside0.mk hr
  have ce := fun w hr => deep_i A c l w hr hc hl
  have hd := deep_ends l
  unfold dpM
  clear hr hw
  generalize endsM l = r at *
  generalize deepM l = n at *
  obtain ⟨out, dp, ok⟩ := r
  obtain ⟨h1, h2⟩ := hd
  cases ok with
  | true =>
    have h3 : 1 ≤ dp := h2 rfl
    have h5 : n = dp := h1
    clear h1 h2
    subst h5
    have h4 : decide (0 < n) = true := decide_eq_true (by omega)
    go_enter Try.func24, Try.ntmps24
    go_wp2_with fail
    refine (ce _ HR.out).mono ?_
    rintro e w1 ⟨rfl, B1⟩
    go_wp2_with fail
    go_ret2
    exact ⟨rfl, B1⟩
  | false =>
    have h5 : n = 0 := h1
    clear h1 h2
    subst h5
    go_enter Try.func24, Try.ntmps24
    go_wp2_with fail
    refine (ce _ HR.out).mono ?_
    rintro e w1 ⟨rfl, B1⟩
    go_wp2_with fail
    go_ret2
    exact ⟨rfl, B1⟩
set_option maxRecDepth 100000 in
set_option maxHeartbeats 4000000 in
theorem law_DeepestOf (A : Option Addr) (c : Nat) (l : List (Int × Int)) (w : World) (hr : Kd.C kI w A l.length l) (hc : l.length ≤ c) (hm : l.length ≤ 9223372036854775807) (hw : ∀ p ∈ l, -9223372036854775808 ≤ p.2 ∧ p.2 < 9223372036854775808) : Calls Try.prog 6 #[.slice A l.length c] w fun e w' => e = .returned (.bool true) ∧ Below w.heap.size w w' := by
  have HR := Aside0.mk hr
  have HW := Aside0.mk hw
  have cz := fun w hr => szIns A c l 1048576 w hr hc
  clear hr hw
  by_cases z : leftM l.length 1048576 < 0
  · generalize leftM l.length 1048576 = q at *
    go_enter Try.func6, Try.ntmps6
    go_wp2_with (go_at_call 21; (with_reducible refine (cz _ HR.out).mono ?_); rintro e w' ⟨rfl, n, rfl⟩)
    go_ret
    exact ⟨rfl, pw_below_drewN (Below.refl _ _) _⟩
  · have hl : l.length ≤ 1048576 := by
      unfold leftM at z
      split at z
      · omega
      · rename_i h; unfold wrap64 at h; omega
    generalize leftM l.length 1048576 = q at *
    go_enter Try.func6, Try.ntmps6
    go_wp2_with (go_at_call 21; (with_reducible refine (cz _ HR.out).mono ?_); rintro e w' ⟨rfl, n, rfl⟩)
    have B0 : Below w.heap.size w (w.drewN n) := pw_below_drewN (Below.refl _ _) _
    generalize w.drewN n = w0 at *
    clear cz
    refine (toIns A c l _ (Kd.C_below HR.out B0) hc hl).mono ?_
    rintro e w1 ⟨A1, c1, rfl, k1, C1, B1⟩
    go_wp2_with fail
    refine (spec_DeepestOf A1 c1 l _ C1 k1 hl HW.out).mono ?_
    rintro e w2 ⟨rfl, B2⟩
    have B := below_step B0 (below_step B1 B2)
    clear B1 B2 C1 B0
    go_wp2_with fail
    refine (toIns A c l _ (Kd.C_below HR.out B) hc hl).mono ?_
    rintro e w3 ⟨A3, c3, rfl, k3, C3, B3⟩
    replace B := below_step B B3
    clear B3
    go_wp2_with fail
    refine (impl_DeepestOf A3 c3 l _ C3 k3 hl HW.out).mono ?_
    rintro e w4 ⟨rfl, B4⟩
    have D3 := Aside0.mk (Kd.C_below C3 B4)
    replace B := below_step B B4
    clear B4 C3
    go_wp2_with fail
    refine (toIns A c l _ (Kd.C_below HR.out B) hc hl).mono ?_
    rintro e w5 ⟨A5, c5, rfl, k5, C5, B5⟩
    replace B := below_step B B5
    go_wp2_with fail
    refine (eqIns A3 c3 A5 c5 l _ (Kd.C_below D3.out B5) k3 C5 k5 hl).mono ?_
    rintro e w6 ⟨rfl, B6⟩
    replace B := below_step B B6
    clear B5 B6 C5
    go_wp2
    go_ret
    exact ⟨rfl, B⟩

end Go.Proofs.Ytfncjcnlndoelaa.OwnDeepLaw
