/- A body's ends, the reference's side: a walk of our own. -/
import Derived.Test.YtfncjcnlndoelaaOwnSt
import Derived.Test.YtfncjcnlndoelaaOwnCode
namespace Go.Proofs.Ytfncjcnlndoelaa.OwnEndsS
open Go Go.RowKit Go.Proofs.YtfncjcnlndoelaaW.PrintWords Go.Proofs.YtfncjcnlndoelaaW.PrintLast Go.Proofs.YtfncjcnlndoelaaW.PrintMore Go.Proofs.Ytfncjcnlndoelaa.OwnBs Go.Proofs.Ytfncjcnlndoelaa.OwnKp Go.Proofs.Ytfncjcnlndoelaa.OwnCode Go.Proofs.Ytfncjcnlndoelaa.OwnSt
set_option linter.unusedVariables false
set_option linter.unusedSimpArgs false
/-- What the reference's walk over a body holds. -/
structure EndSt where
  out : List Int
  op : List Int
  els : List Bool
  ins : List (List Int)
  deep : Nat
/-- The ends of these are i. -/
def setAll (out : List Int) (ks : List Int) (i : Int) : List Int := ks.foldl (fun o k => o.set k.toNat i) out
def stepE (i : Nat) (x : Int) (s : EndSt) : Option EndSt :=
  if s.op.length = 0 then none
  else if x = 2 ∨ x = 3 ∨ x = 4 then some ⟨s.out, s.op ++ [(i : Int)], s.els ++ [x != 4], s.ins ++ [[(i : Int)]], if s.deep < s.op.length + 1 then s.op.length + 1 else s.deep⟩
  else if x = 5 ∧ s.els.getD (s.op.length - 1) false = true then none
  else
    let row := s.ins.getD (s.op.length - 1) [] ++ [(i : Int)]
    let ins := s.ins.set (s.op.length - 1) row
    let els := if x = 5 then s.els.set (s.op.length - 1) true else s.els
    if x = 11 then some ⟨setAll s.out row i, s.op.take (s.op.length - 1), els.take (s.op.length - 1), ins.take (s.op.length - 1), s.deep⟩
    else some ⟨s.out, s.op, els, ins, s.deep⟩
def runE : List (Int × Int) → Nat → EndSt → Option EndSt
  | [], _, s => some s
  | x :: xs, i, s => (stepE i x.1 s).bind (runE xs (i + 1))
def iniE (L : Nat) : EndSt := ⟨List.replicate L 0, [-1], [true], [[]], 1⟩
/-- What the reference tells of a body. -/
def resE : Option EndSt → List Int × Nat × Bool
  | none => ([], 0, false)
  | some s => (s.out, s.deep, s.op.length == 0)
def endsM (l : List (Int × Int)) : List Int × Nat × Bool :=
  if goodC l = true ∧ l ≠ [] then resE (runE l 0 (iniE l.length)) else ([], 0, false)
/-- What holds ahead of place i. -/
structure InvE (L i : Nat) (s : EndSt) : Prop where
  e1 : s.els.length = s.op.length
  e2 : s.ins.length = s.op.length
  e3 : s.op.length ≤ i + 1
  e4 : s.deep ≤ i + 1
  e5 : s.out.length = L
  e6 : ∀ r ∈ s.ins, r.length ≤ i ∧ ∀ k ∈ r, 0 ≤ k ∧ k < (i : Int)
theorem inv_ini (L : Nat) : InvE L 0 (iniE L) := ⟨rfl, rfl, by simp [iniE], by simp [iniE], by simp [iniE], by simp [iniE]⟩
theorem setAll_len (ks : List Int) : ∀ (out : List Int) (i : Int), (setAll out ks i).length = out.length := by
  induction ks with
  | nil => intro out i; rfl
  | cons k ks ih => intro out i; show (setAll (out.set k.toNat i) ks i).length = _; rw [ih, List.length_set]
theorem inv_step {L i : Nat} {x : Int} {s s' : EndSt} (h : InvE L i s) (hs : stepE i x s = some s') : InvE L (i + 1) s' := by
  obtain ⟨e1, e2, e3, e4, e5, e6⟩ := h
  unfold stepE at hs
  by_cases c0 : s.op.length = 0
  · rw [if_pos c0] at hs; cases hs
  · rw [if_neg c0] at hs
    by_cases c1 : x = 2 ∨ x = 3 ∨ x = 4
    · rw [if_pos c1] at hs
      injection hs with hs
      subst hs
      refine ⟨by simp [e1], by simp [e2], by simp; omega, by simp only; split <;> omega, e5, fun r hr => ?_⟩
      simp only [List.mem_append, List.mem_singleton] at hr
      rcases hr with hr | rfl
      · have := e6 r hr
        exact ⟨by omega, fun k hk => by have := this.2 k hk; omega⟩
      · exact ⟨by simp, fun k hk => by simp at hk; omega⟩
    · rw [if_neg c1] at hs
      by_cases c2 : x = 5 ∧ s.els.getD (s.op.length - 1) false = true
      · rw [if_pos c2] at hs; cases hs
      · rw [if_neg c2] at hs
        have hrow : ∀ r ∈ s.ins.set (s.op.length - 1) (s.ins.getD (s.op.length - 1) [] ++ [(i : Int)]), r.length ≤ i + 1 ∧ ∀ k ∈ r, 0 ≤ k ∧ k < ((i + 1 : Nat) : Int) := by
          intro r hr
          rcases List.mem_or_eq_of_mem_set hr with hr | rfl
          · have := e6 r hr
            exact ⟨by omega, fun k hk => by have := this.2 k hk; omega⟩
          · have hm : s.ins.getD (s.op.length - 1) [] ∈ s.ins := by
              rw [List.getD_eq_getElem?_getD, List.getElem?_eq_getElem (by omega)]
              exact List.getElem_mem _
            have := e6 _ hm
            refine ⟨by rw [List.length_append, List.length_singleton]; omega, fun k hk => ?_⟩
            simp only [List.mem_append, List.mem_singleton] at hk
            rcases hk with hk | rfl
            · have := this.2 k hk; omega
            · omega
        have hels : (if x = 5 then s.els.set (s.op.length - 1) true else s.els).length = s.op.length := by split <;> simp [e1]
        by_cases c3 : x = 11
        · simp only [if_pos c3] at hs
          injection hs with hs
          subst hs
          refine ⟨?_, ?_, ?_, by simp only; omega, ?_, fun r hr => hrow r (List.mem_of_mem_take hr)⟩
          · show (List.take _ _).length = (List.take _ _).length
            rw [List.length_take, List.length_take, hels]
          · show (List.take _ _).length = (List.take _ _).length
            rw [List.length_take, List.length_take, List.length_set, e2]
          · show (List.take _ _).length ≤ _
            rw [List.length_take]; omega
          · show (setAll _ _ _).length = _
            rw [setAll_len, e5]
        · simp only [if_neg c3] at hs
          injection hs with hs
          subst hs
          exact ⟨hels, by simp [e2], by simp only; omega, by simp only; omega, e5, hrow⟩
def EndsPost (w : World) (r : List Int × Nat × Bool) (e : Ending) (w' : World) : Prop := ∃ v, e = .returned (.tuple #[v, .int .i64 r.2.1, .bool r.2.2]) ∧ dI.R 3 w' w.heap.size (fun _ => True) v r.1 ∧ Below w.heap.size w w'
set_option maxRecDepth 100000 in
set_option maxHeartbeats 4000000 in
theorem ends_no (A : Option Addr) (c : Nat) (l : List (Int × Int)) (w : World) (hr : Kd.C kI w A l.length l) (hc : l.length ≤ c) (hl : l.length ≤ 1048576) (g : goodC l = false ∨ l = []) : Calls Try.prog 56 #[.slice A l.length c] w (EndsPost w ([], 0, false)) := by
  have cg := fun w hr => good_s A c l w hr hc hl
  have HR := Aside0.mk hr
  clear hr
  rcases g with g | rfl
  · rw [g] at cg
    clear g
    go_enter Try.func56, Try.ntmps56
    go_wp2_with fail
    refine (cg _ HR.out).mono ?_
    rintro e w1 ⟨rfl, B1⟩
    go_wp2_with fail
    go_ret3
    exact ⟨_, rfl, Kd.R_nil _ _ _ _ _, B1⟩
  · have e : goodC [] = true := rfl
    rw [e] at cg
    clear e
    go_enter Try.func56, Try.ntmps56
    go_wp2_with fail
    refine (cg _ HR.out).mono ?_
    rintro e w1 ⟨rfl, B1⟩
    go_wp2_with fail
    go_ret3
    exact ⟨_, rfl, Kd.R_nil _ _ _ _ _, B1⟩
set_option maxRecDepth 100000 in
set_option maxHeartbeats 40000000 in
theorem ends_yes (A : Option Addr) (c : Nat) (l : List (Int × Int)) (w : World) (hr : Kd.C kI w A l.length l) (hc : l.length ≤ c) (g : goodC l = true) (g0 : l ≠ []) (R : Option EndSt) (hRun : runE l 0 (iniE l.length) = R) (res : List Int × Nat × Bool) (hres : res = resE R) : Calls Try.prog 56 #[.slice A l.length c] w (EndsPost w res) := by
  have hl2 := goodC_len g
  have cg := fun w hr => good_s A c l w hr hc (by omega)
  have HR := Aside0.mk hr
  have hl0 : 0 < l.length := List.length_pos_iff.2 g0
  have HRun := Aside0.mk hRun
  have HRes := Aside0.mk hres
  rw [g] at cg
  clear hr g g0 hRun hres
  have hlb : ((l.length : Int) == 0) = false := beq_eq_false_iff_ne.2 (by omega)
  have hmk := print_make (P := Try.prog) 52 3 .i64 8 Try.underlying52 info_int (by decide) l.length (by omega)
  go_enter Try.func56, Try.ntmps56
  go_wp2_with fail
  refine (cg _ HR.out).mono ?_
  rintro e w1 ⟨rfl, B1⟩
  clear cg
  have S0 := St.init B1 l.length (by omega) (-1) true
  go_wp2_with (at_builtin; refine S0.app_nil rfl _ _ rfl rfl _ rfl (by simp) ?_; intro v9 w2 S1)
  clear hmk hlb
  generalize w1.heap.size = b0 at *
  go_loopg [6, 7, 8, 9, 33] l.length (fun kq v6 v7 v8 v9 v33 w' => ∃ (i : Nat) (s : EndSt), i + kq = l.length ∧ v6 = .int .i64 s.deep ∧ v33 = .int .i64 i ∧ St w w' (.slice (some ⟨b0, 0, none⟩) l.length l.length) v7 v8 v9 s.out s.op s.els s.ins ∧ Aside0 (InvE l.length i s) ∧ Aside0 (runE (l.drop i) i s = R))
  case atStart => exact ⟨0, iniE l.length, by omega, rfl, rfl, S1, ⟨inv_ini _⟩, ⟨HRun.out⟩⟩
  case round =>
    clear S0 S1 B1 HRun
    obtain ⟨i, s, hi, rfl, rfl, HS, HI, HQ⟩ := hrel
    cases gk with
    | zero =>
      obtain rfl : i = l.length := by omega
      have hq := HQ.out
      rw [List.drop_length] at hq
      have hre := HRes.out
      rw [← hq] at hre
      subst hre
      have hd : decide ((l.length : Int) < (l.length : Int)) = false := decide_eq_false (by omega)
      obtain ⟨⟨tag, r1, r2, r3, r4⟩, hB⟩ := HS
      obtain ⟨A7, c7, rfl⟩ := Kd.R_slice r2
      have he : (((s.op.length : Nat) : Int) == 0) = (s.op.length == 0) := by
        rw [Bool.eq_iff_iff, beq_iff_eq, beq_iff_eq]; omega
      go_wp2
      go_ret3
      refine ⟨_, ?_, Kd.R_mono r1 (fun _ _ => trivial), hB⟩
      show _ = Ending.returned (.tuple #[_, .int .i64 s.deep, .bool (s.op.length == 0)])
      rw [← he]
      rfl
    | succ k1 =>
      have hil : i < l.length := by omega
      have hd : decide ((i : Int) < (l.length : Int)) = true := decide_eq_true (by omega)
      obtain ⟨ad, e, hx0, hx1⟩ := at_ins HR.out i hil
      subst e
      replace hx0 := (HS.bel.cell (World.block_lt_of_cell? w _ hx0)).trans hx0
      replace hx1 := (HS.bel.cell (World.block_lt_of_cell? w _ hx1)).trans hx1
      have HQ2 : Aside0 ((stepE i l[i].1 s).bind (runE (l.drop (i + 1)) (i + 1)) = R) := ⟨by have := HQ.out; rwa [List.drop_eq_getElem_cons hil] at this⟩
      have HV : Aside0 (∀ s', stepE i l[i].1 s = some s' → InvE l.length (i + 1) s') := ⟨fun s' hs => inv_step HI.out hs⟩
      clear HQ
      generalize l[i].1 = x at *
      generalize l[i].2 = y at *
      obtain ⟨out, op, els, ins, deep⟩ := s
      obtain ⟨e1, e2, e3, e4, e5, e6⟩ := HI.out
      clear HI
      simp only at e1 e2 e3 e4 e5 e6 HS
      have E6 := Aside0.mk e6
      clear e6
      by_cases c0 : op.length = 0
      · have hn : stepE i x ⟨out, op, els, ins, deep⟩ = none := by unfold stepE; rw [if_pos c0]
        have hq := HQ2.out
        rw [hn] at hq
        have hre := HRes.out
        rw [← hq] at hre
        simp only [Option.bind_none] at hre
        subst hre
        clear hq HQ2 HV hn
        obtain ⟨⟨tag, r1, r2, r3, r4⟩, hB⟩ := HS
        obtain ⟨A7, c7, rfl⟩ := Kd.R_slice r2
        have c0i : (op.length : Int) = 0 := by omega
        go_wp2
        go_ret3
        exact ⟨_, rfl, Kd.R_nil _ _ _ _ _, below_alloc hB _⟩
      · obtain ⟨-, ⟨gp, cp, f1, m1⟩, ⟨ge, ce, f2, m2⟩, ⟨gi, ci, f3, m3⟩⟩ := HS.forms (by omega) (by omega) (by omega)
        subst f1; subst f2; subst f3
        have HX := HS.alloc (.cells #[.int .i64 x, .int .i64 y] 86)
        have BX : (wr.alloc (.cells #[.int .i64 x, .int .i64 y] 86)).heap[wr.heap.size]? = some (.cells #[.int .i64 x, .int .i64 y] 86 (0, 0)) := by unfold World.alloc; exact Array.getElem?_push_size
        have BXA := Aside0.mk BX
        obtain ⟨d, hdd⟩ : ∃ d, op.length = d + 1 := ⟨op.length - 1, by omega⟩
        have en : (op.length : Int) - 1 = (d : Int) := by omega
        have ew : IntKind.i64.wrap ((op.length : Int) - 1) = (d : Int) := by rw [IntKind.wrap_i64]; omega
        have DD := Aside0.mk hdd
        have E1 := Aside0.mk e1
        have E2 := Aside0.mk e2
        have l0 : 0 < op.length := by omega
        have l1 : (d : Int) < (els.length : Int) := by omega
        have l2 : (d : Int) < (ins.length : Int) := by omega
        have l3 : (d : Int) < (op.length : Int) := by omega
        have n1 : els.length ≤ 1000 := by omega
        have n2 : ins.length ≤ 1000 := by omega
        have n3 : op.length ≤ 1000 := by omega
        have n4 : deep ≤ 1000 := by omega
        have E5 := Aside0.mk e5
        clear BX HS hdd e1 e2 e5
        by_cases c1 : x = 2 ∨ x = 3 ∨ x = 4
        · rcases c1 with rfl | rfl | rfl
          · by_cases cd : deep < op.length + 1
            · skip
              have hstep : stepE i 2 ⟨out, op, els, ins, deep⟩ = some ⟨out, op ++ [(i : Int)], els ++ [true], ins ++ [[(i : Int)]], op.length + 1⟩ := by unfold stepE; rw [if_neg c0, if_pos (by decide), if_pos cd]; rfl
              have hq := HQ2.out
              rw [hstep] at hq
              simp only [Option.bind_some] at hq
              have HQ3 := Aside0.mk hq
              have HV3 := Aside0.mk (HV.out _ hstep)
              clear hq HQ2 HV hstep
              go_wp2_with (first
                | (at_builtin; (fail_if_success (have _ := H1)); refine HX.app_open (i : Int) (by omega) rfl _ _ rfl rfl _ rfl (by simp) ?_; intro v1 u1 H1 K1; have Q1 := K1 _ _ BXA.out; have z1 : u1.cell? ⟨wr.heap.size, 0, none⟩ = some _ := (blk_cell Q1 0).trans rfl; obtain ⟨Ap, fp, ep⟩ := St.op_form H1; subst ep; rw [List.length_append] at H1)
                | (at_builtin; have _ := H1; (fail_if_success (have _ := H2)); refine H1.app_els _ (by omega) rfl _ _ rfl rfl _ rfl (by simp) ?_; intro v2 u2 H2 K2)
                | (at_builtin; have _ := H2; refine H2.app_ins (i : Int) (by omega) rfl _ _ rfl rfl _ _ rfl (by simp) rfl ?_; intro v3 u3 H3 K3))
              go_roundg k1
              case measure => omega
              case rel => exact ⟨i + 1, _, by omega, by rw [Int.natCast_add]; rfl, by rw [Int.natCast_add]; rfl, H3, HV3, HQ3⟩
            · skip
              have hstep : stepE i 2 ⟨out, op, els, ins, deep⟩ = some ⟨out, op ++ [(i : Int)], els ++ [true], ins ++ [[(i : Int)]], deep⟩ := by unfold stepE; rw [if_neg c0, if_pos (by decide), if_neg cd]; rfl
              have hq := HQ2.out
              rw [hstep] at hq
              simp only [Option.bind_some] at hq
              have HQ3 := Aside0.mk hq
              have HV3 := Aside0.mk (HV.out _ hstep)
              clear hq HQ2 HV hstep
              go_wp2_with (first
                | (at_builtin; (fail_if_success (have _ := H1)); refine HX.app_open (i : Int) (by omega) rfl _ _ rfl rfl _ rfl (by simp) ?_; intro v1 u1 H1 K1; have Q1 := K1 _ _ BXA.out; have z1 : u1.cell? ⟨wr.heap.size, 0, none⟩ = some _ := (blk_cell Q1 0).trans rfl; obtain ⟨Ap, fp, ep⟩ := St.op_form H1; subst ep; rw [List.length_append] at H1)
                | (at_builtin; have _ := H1; (fail_if_success (have _ := H2)); refine H1.app_els _ (by omega) rfl _ _ rfl rfl _ rfl (by simp) ?_; intro v2 u2 H2 K2)
                | (at_builtin; have _ := H2; refine H2.app_ins (i : Int) (by omega) rfl _ _ rfl rfl _ _ rfl (by simp) rfl ?_; intro v3 u3 H3 K3))
              go_roundg k1
              case measure => omega
              case rel => exact ⟨i + 1, _, by omega, rfl, by rw [Int.natCast_add]; rfl, H3, HV3, HQ3⟩
          · by_cases cd : deep < op.length + 1
            · skip
              have hstep : stepE i 3 ⟨out, op, els, ins, deep⟩ = some ⟨out, op ++ [(i : Int)], els ++ [true], ins ++ [[(i : Int)]], op.length + 1⟩ := by unfold stepE; rw [if_neg c0, if_pos (by decide), if_pos cd]; rfl
              have hq := HQ2.out
              rw [hstep] at hq
              simp only [Option.bind_some] at hq
              have HQ3 := Aside0.mk hq
              have HV3 := Aside0.mk (HV.out _ hstep)
              clear hq HQ2 HV hstep
              go_wp2_with (first
                | (at_builtin; (fail_if_success (have _ := H1)); refine HX.app_open (i : Int) (by omega) rfl _ _ rfl rfl _ rfl (by simp) ?_; intro v1 u1 H1 K1; have Q1 := K1 _ _ BXA.out; have z1 : u1.cell? ⟨wr.heap.size, 0, none⟩ = some _ := (blk_cell Q1 0).trans rfl; obtain ⟨Ap, fp, ep⟩ := St.op_form H1; subst ep; rw [List.length_append] at H1)
                | (at_builtin; have _ := H1; (fail_if_success (have _ := H2)); refine H1.app_els _ (by omega) rfl _ _ rfl rfl _ rfl (by simp) ?_; intro v2 u2 H2 K2)
                | (at_builtin; have _ := H2; refine H2.app_ins (i : Int) (by omega) rfl _ _ rfl rfl _ _ rfl (by simp) rfl ?_; intro v3 u3 H3 K3))
              go_roundg k1
              case measure => omega
              case rel => exact ⟨i + 1, _, by omega, by rw [Int.natCast_add]; rfl, by rw [Int.natCast_add]; rfl, H3, HV3, HQ3⟩
            · skip
              have hstep : stepE i 3 ⟨out, op, els, ins, deep⟩ = some ⟨out, op ++ [(i : Int)], els ++ [true], ins ++ [[(i : Int)]], deep⟩ := by unfold stepE; rw [if_neg c0, if_pos (by decide), if_neg cd]; rfl
              have hq := HQ2.out
              rw [hstep] at hq
              simp only [Option.bind_some] at hq
              have HQ3 := Aside0.mk hq
              have HV3 := Aside0.mk (HV.out _ hstep)
              clear hq HQ2 HV hstep
              go_wp2_with (first
                | (at_builtin; (fail_if_success (have _ := H1)); refine HX.app_open (i : Int) (by omega) rfl _ _ rfl rfl _ rfl (by simp) ?_; intro v1 u1 H1 K1; have Q1 := K1 _ _ BXA.out; have z1 : u1.cell? ⟨wr.heap.size, 0, none⟩ = some _ := (blk_cell Q1 0).trans rfl; obtain ⟨Ap, fp, ep⟩ := St.op_form H1; subst ep; rw [List.length_append] at H1)
                | (at_builtin; have _ := H1; (fail_if_success (have _ := H2)); refine H1.app_els _ (by omega) rfl _ _ rfl rfl _ rfl (by simp) ?_; intro v2 u2 H2 K2)
                | (at_builtin; have _ := H2; refine H2.app_ins (i : Int) (by omega) rfl _ _ rfl rfl _ _ rfl (by simp) rfl ?_; intro v3 u3 H3 K3))
              go_roundg k1
              case measure => omega
              case rel => exact ⟨i + 1, _, by omega, rfl, by rw [Int.natCast_add]; rfl, H3, HV3, HQ3⟩
          · by_cases cd : deep < op.length + 1
            · skip
              have hstep : stepE i 4 ⟨out, op, els, ins, deep⟩ = some ⟨out, op ++ [(i : Int)], els ++ [false], ins ++ [[(i : Int)]], op.length + 1⟩ := by unfold stepE; rw [if_neg c0, if_pos (by decide), if_pos cd]; rfl
              have hq := HQ2.out
              rw [hstep] at hq
              simp only [Option.bind_some] at hq
              have HQ3 := Aside0.mk hq
              have HV3 := Aside0.mk (HV.out _ hstep)
              clear hq HQ2 HV hstep
              go_wp2_with (first
                | (at_builtin; (fail_if_success (have _ := H1)); refine HX.app_open (i : Int) (by omega) rfl _ _ rfl rfl _ rfl (by simp) ?_; intro v1 u1 H1 K1; have Q1 := K1 _ _ BXA.out; have z1 : u1.cell? ⟨wr.heap.size, 0, none⟩ = some _ := (blk_cell Q1 0).trans rfl; obtain ⟨Ap, fp, ep⟩ := St.op_form H1; subst ep; rw [List.length_append] at H1)
                | (at_builtin; have _ := H1; (fail_if_success (have _ := H2)); refine H1.app_els _ (by omega) rfl _ _ rfl rfl _ rfl (by simp) ?_; intro v2 u2 H2 K2)
                | (at_builtin; have _ := H2; refine H2.app_ins (i : Int) (by omega) rfl _ _ rfl rfl _ _ rfl (by simp) rfl ?_; intro v3 u3 H3 K3))
              go_roundg k1
              case measure => omega
              case rel => exact ⟨i + 1, _, by omega, by rw [Int.natCast_add]; rfl, by rw [Int.natCast_add]; rfl, H3, HV3, HQ3⟩
            · skip
              have hstep : stepE i 4 ⟨out, op, els, ins, deep⟩ = some ⟨out, op ++ [(i : Int)], els ++ [false], ins ++ [[(i : Int)]], deep⟩ := by unfold stepE; rw [if_neg c0, if_pos (by decide), if_neg cd]; rfl
              have hq := HQ2.out
              rw [hstep] at hq
              simp only [Option.bind_some] at hq
              have HQ3 := Aside0.mk hq
              have HV3 := Aside0.mk (HV.out _ hstep)
              clear hq HQ2 HV hstep
              go_wp2_with (first
                | (at_builtin; (fail_if_success (have _ := H1)); refine HX.app_open (i : Int) (by omega) rfl _ _ rfl rfl _ rfl (by simp) ?_; intro v1 u1 H1 K1; have Q1 := K1 _ _ BXA.out; have z1 : u1.cell? ⟨wr.heap.size, 0, none⟩ = some _ := (blk_cell Q1 0).trans rfl; obtain ⟨Ap, fp, ep⟩ := St.op_form H1; subst ep; rw [List.length_append] at H1)
                | (at_builtin; have _ := H1; (fail_if_success (have _ := H2)); refine H1.app_els _ (by omega) rfl _ _ rfl rfl _ rfl (by simp) ?_; intro v2 u2 H2 K2)
                | (at_builtin; have _ := H2; refine H2.app_ins (i : Int) (by omega) rfl _ _ rfl rfl _ _ rfl (by simp) rfl ?_; intro v3 u3 H3 K3))
              go_roundg k1
              case measure => omega
              case rel => exact ⟨i + 1, _, by omega, rfl, by rw [Int.natCast_add]; rfl, H3, HV3, HQ3⟩
        · by_cases c5 : x = 5
          · subst c5
            obtain ⟨v0, v1⟩ := HX.els_cell d (by omega)
            have hed : els.getD (op.length - 1) false = els[d]'(by omega) := by rw [List.getD_eq_getElem?_getD, show op.length - 1 = d by have := DD.out; omega, List.getElem?_eq_getElem (by omega)]; rfl
            generalize hb : els[d]'(by omega) = b at *
            clear hb
            cases b with
            | true =>
              have hn : stepE i 5 ⟨out, op, els, ins, deep⟩ = none := by unfold stepE; rw [if_neg c0, if_neg (by decide), if_pos ⟨rfl, hed⟩]
              have hq := HQ2.out
              rw [hn] at hq
              have hre := HRes.out
              rw [← hq] at hre
              simp only [Option.bind_none] at hre
              subst hre
              clear hq HQ2 HV hn hed
              go_wp2
              go_ret3
              exact ⟨_, rfl, Kd.R_nil _ _ _ _ _, HX.bel⟩
            | false =>
              have hc5 : ¬ ((5 : Int) = 5 ∧ els.getD (op.length - 1) false = true) := by rw [hed]; simp
              clear hed
              obtain ⟨S5, K5⟩ := HX.set_els d true
              have Q5 := K5 _ _ BXA.out
              have z5 := (blk_cell Q5 0).trans (show (#[Value.int .i64 5, Value.int .i64 y] : Array Value)[0]? = some (.int .i64 5) from rfl)
              have hd2 : d < ins.length := by omega
              have hd3 : d < ins.length := hd2
              have hrl : ins[d].length ≤ 100000 := by have := (E6.out _ (List.getElem_mem hd2)).1; omega
              obtain ⟨Ai, mi, y1, y2, y3⟩ := S5.ins_cell d hd2
              have eg : ins.getD d [] = ins[d] := by rw [List.getD_eq_getElem?_getD, List.getElem?_eq_getElem hd2]; rfl
              have ed : op.length - 1 = d := by have := DD.out; omega
              have hstep : stepE i 5 ⟨out, op, els, ins, deep⟩ = some ⟨out, op, els.set d true, ins.set d (ins[d] ++ [(i : Int)]), deep⟩ := by
                unfold stepE
                rw [if_neg c0, if_neg (by decide), if_neg hc5]
                simp only [ed, eg]; rfl
              have hq := HQ2.out
              rw [hstep] at hq
              simp only [Option.bind_some] at hq
              have HQ3 := Aside0.mk hq
              have HV3 := Aside0.mk (HV.out _ hstep)
              clear hq HQ2 HV hstep eg ed y2 y3
              go_wp2_with (first
                | (at_builtin; (fail_if_success (have _ := HH)); refine S5.app_top d hd2 (i : Int) hrl _ y1 rfl _ _ rfl rfl _ rfl (by simp) ?_; intro v1 u1 HH K1; have Q1 := K1 _ _ Q5)
                | ((with_reducible refine gate_store (t := 52) (p := 88) rfl ?_); have _ := HH; refine HH.store hd3 rfl rfl _ _ rfl rfl rfl ?_; intro u2 H2 K2; have Q2 := K2 _ _ Q1; have z2 : u2.cell? ⟨wr.heap.size, 0, none⟩ = some _ := (blk_cell Q2 0).trans rfl; clear HH))
              go_roundg k1
              case measure => omega
              case rel => exact ⟨i + 1, _, by omega, rfl, by rw [Int.natCast_add]; rfl, H2, HV3, HQ3⟩
          · by_cases c11 : x = 11
            · subst c11
              have S5 := HX
              have Q5 := BXA.out
              have hd2 : d < ins.length := by omega
              have hd3 : d < ins.length := hd2
              have hrl : ins[d].length ≤ 100000 := by have := (E6.out _ (List.getElem_mem hd2)).1; omega
              obtain ⟨Ai, mi, y1, y2, y3⟩ := S5.ins_cell d hd2
              have eg : ins.getD d [] = ins[d] := by rw [List.getD_eq_getElem?_getD, List.getElem?_eq_getElem hd2]; rfl
              have ed : op.length - 1 = d := by have := DD.out; omega
              have hstep : stepE i 11 ⟨out, op, els, ins, deep⟩ = some ⟨setAll out (ins[d] ++ [(i : Int)]) i, op.take d, els.take d, (ins.set d (ins[d] ++ [(i : Int)])).take d, deep⟩ := by
                unfold stepE
                rw [if_neg c0, if_neg (by decide), if_neg (by rintro ⟨h, _⟩; exact absurd h (by decide))]
                simp only [ed, eg]; rfl
              have hq := HQ2.out
              rw [hstep] at hq
              simp only [Option.bind_some] at hq
              have HQ3 := Aside0.mk hq
              have HV3 := Aside0.mk (HV.out _ hstep)
              clear hq HQ2 HV hstep eg ed y2 y3
              go_wp2_with (first
                | (at_builtin; (fail_if_success (have _ := HH)); refine S5.app_top d hd2 (i : Int) hrl _ y1 rfl _ _ rfl rfl _ rfl (by simp) ?_; intro v1 u1 HH K1; obtain ⟨row, hro⟩ : ∃ r, r = ins[d] ++ [(i : Int)] := ⟨_, rfl⟩; rw [← hro] at HH; have HRO := Aside0.mk hro; clear hro; have Q1 := K1 _ _ Q5)
                | ((with_reducible refine gate_store (t := 52) (p := 88) rfl ?_); have _ := HH; refine HH.store hd3 rfl rfl _ _ rfl rfl rfl ?_; intro u2 H2 K2; have Q2 := K2 _ _ Q1; have z2 : u2.cell? ⟨wr.heap.size, 0, none⟩ = some _ := (blk_cell Q2 0).trans rfl; obtain ⟨Ar, mr, p1, p2, p3⟩ := H2.ins_cell d (by rw [List.length_set]; exact hd2); rw [List.getElem_set_self] at p1 p3; clear HH))
              have E7 : Aside0 (∀ k ∈ row, 0 ≤ k ∧ k < (l.length : Int)) := ⟨fun k hk => by
                rw [HRO.out, List.mem_append, List.mem_singleton] at hk
                rcases hk with hk | rfl
                · have := (E6.out _ (List.getElem_mem hd2)).2 k hk; omega
                · omega⟩
              have hrlen : row.length ≤ 1000 := by rw [HRO.out, List.length_append, List.length_singleton]; have := (E6.out _ (List.getElem_mem hd2)).1; omega
              have hrpos : 0 < row.length := by rw [HRO.out, List.length_append, List.length_singleton]; omega
              obtain ⟨ar, ea, _⟩ := p3.at_ 0 (by omega) (by omega)
              subst ea
              have H2' : St w u2 (.slice (some ⟨b0, 0, none⟩) l.length l.length) (.slice (some ⟨gp, 0, none⟩) op.length cp) (.slice (some ⟨ge, 0, none⟩) els.length ce) (.slice (some ⟨gi, 0, none⟩) ins.length ci) (setAll out (row.take 0) i) op els (ins.set d row) := H2
              rw [← HRO.out] at HV3 HQ3
              clear p2 p3 H2 K1 K2 Q1 Q2 z2 Q5 S5 HX BXA y1 HRO
              go_loopg [97] row.length (fun kq v97 w' => ∃ j : Nat, j + kq = row.length ∧ v97 = .int .i64 j ∧ St w w' (.slice (some ⟨b0, 0, none⟩) l.length l.length) (.slice (some ⟨gp, 0, none⟩) op.length cp) (.slice (some ⟨ge, 0, none⟩) els.length ce) (.slice (some ⟨gi, 0, none⟩) ins.length ci) (setAll out (row.take j) i) op els (ins.set d row) ∧ w'.cell? ⟨gi, d, none⟩ = some (.slice (some ar) row.length mr))
              case atStart => exact ⟨0, by omega, rfl, H2', p1⟩
              case round =>
                clear H2' p1
                obtain ⟨j, hj, rfl, H3, pc⟩ := hrel
                cases gk with
                | zero =>
                  obtain rfl : j = row.length := by omega
                  rw [List.take_length] at H3
                  have hd9 : decide ((row.length : Int) < (row.length : Int)) = false := decide_eq_false (by omega)
                  have r1 : (d : Int) ≤ (cp : Int) := by omega
                  have r2 : (d : Int) ≤ (ce : Int) := by omega
                  have r3 : (d : Int) ≤ (ci : Int) := by omega
                  have H4 := H3.takes (m := d) rfl rfl rfl (by omega) (by omega) (by rw [List.length_set]; omega)
                  go_wp2
                  go_roundg k1
                  case measure => omega
                  case rel => exact ⟨i + 1, _, by omega, rfl, by rw [Int.natCast_add]; rfl, H4, HV3, HQ3⟩
                | succ k2 =>
                  have hjl : j < row.length := by omega
                  have hd9 : decide ((j : Int) < (row.length : Int)) = true := decide_eq_true (by omega)
                  have hrd := H3.ins_reads d (by rw [List.length_set]; exact hd2) pc
                  rw [List.getElem_set_self] at hrd
                  obtain ⟨ar', ea, hx⟩ := hrd.at_ (j : Int) (by omega) (by omega)
                  injection ea with ea
                  subst ea
                  rw [Pl.rd_at row j hjl, Int.toNat_natCast] at hx
                  have hsn : setAll out (row.take (j + 1)) i = (setAll out (row.take j) i).set (row[j]).toNat i := by
                    unfold setAll; rw [List.take_succ_eq_append_getElem hjl, List.foldl_append]; rfl
                  have HSN := Aside0.mk hsn
                  have hk7 := E7.out _ (List.getElem_mem hjl)
                  clear hrd hsn
                  generalize row[j] = k at *
                  obtain ⟨kn, rfl⟩ : ∃ kn : Nat, k = kn := ⟨k.toNat, by omega⟩
                  rw [Int.toNat_natCast] at HSN
                  obtain ⟨v7, o1, o2⟩ : ∃ v, wr.cell? ⟨b0, kn, none⟩ = some v ∧ wr.frozen? ⟨b0, kn, none⟩ = false := ⟨_, H3.out_cell kn (by rw [setAll_len]; have := E5.out; omega)⟩
                  obtain ⟨H5, K5, C5⟩ := H3.set_out kn i
                  have pc5 := Aside0.mk ((C5 gi (by simp [Value.ownBlock]) d).trans pc)
                  have hk8 : (kn : Int) < (l.length : Int) := hk7.2
                  clear hk7 pc
                  go_wp2
                  go_roundg k2
                  case measure => omega
                  case rel => exact ⟨j + 1, by omega, by rw [Int.natCast_add]; rfl, by rw [HSN.out]; exact H5, pc5.out⟩
            · have S5 := HX
              have Q5 := BXA.out
              have hd2 : d < ins.length := by omega
              have hd3 : d < ins.length := hd2
              have hrl : ins[d].length ≤ 100000 := by have := (E6.out _ (List.getElem_mem hd2)).1; omega
              obtain ⟨Ai, mi, y1, y2, y3⟩ := S5.ins_cell d hd2
              have eg : ins.getD d [] = ins[d] := by rw [List.getD_eq_getElem?_getD, List.getElem?_eq_getElem hd2]; rfl
              have ed : op.length - 1 = d := by have := DD.out; omega
              have hstep : stepE i x ⟨out, op, els, ins, deep⟩ = some ⟨out, op, els, ins.set d (ins[d] ++ [(i : Int)]), deep⟩ := by
                unfold stepE
                rw [if_neg c0, if_neg c1, if_neg (by rintro ⟨h, _⟩; exact c5 h)]
                simp only [ed, eg, if_neg c5, if_neg c11]
              have hq := HQ2.out
              rw [hstep] at hq
              simp only [Option.bind_some] at hq
              have HQ3 := Aside0.mk hq
              have HV3 := Aside0.mk (HV.out _ hstep)
              clear hq HQ2 HV hstep eg ed y2 y3
              go_wp2_with (first
                | (at_builtin; (fail_if_success (have _ := HH)); refine S5.app_top d hd2 (i : Int) hrl _ y1 rfl _ _ rfl rfl _ rfl (by simp) ?_; intro v1 u1 HH K1; have Q1 := K1 _ _ Q5)
                | ((with_reducible refine gate_store (t := 52) (p := 88) rfl ?_); have _ := HH; refine HH.store hd3 rfl rfl _ _ rfl rfl rfl ?_; intro u2 H2 K2; have Q2 := K2 _ _ Q1; have z2 : u2.cell? ⟨wr.heap.size, 0, none⟩ = some _ := (blk_cell Q2 0).trans rfl; clear HH))
              go_roundg k1
              case measure => omega
              case rel => exact ⟨i + 1, _, by omega, rfl, by rw [Int.natCast_add]; rfl, H2, HV3, HQ3⟩

end Go.Proofs.Ytfncjcnlndoelaa.OwnEndsS
