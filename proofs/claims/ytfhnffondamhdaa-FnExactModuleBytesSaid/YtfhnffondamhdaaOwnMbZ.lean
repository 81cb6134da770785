/- ModuleBytes, the reference: a walk of our own. ModuleBytes, the reference, whole: a walk of our own. ModuleBytes: the law, by a walk of our own. -/
import Derived.Test.YtfhnffondamhdaaOwnMbA
import Derived.Test.YtfhnffondamhdaaOwnSecS
namespace Go.Proofs.Ytfhnffondamhdaa.OwnMbS
open Go Go.RowKit Go.Proofs.YtfhnffondamhdaaW.PrintWords Go.Proofs.YtfhnffondamhdaaW.PrintLast Go.Proofs.YtfhnffondamhdaaW.PrintMore Go.Proofs.Ytfhnffondamhdaa.OwnBs Go.Proofs.Ytfhnffondamhdaa.OwnKp Go.Proofs.Ytfhnffondamhdaa.OwnBytes Go.Proofs.Ytfhnffondamhdaa.OwnCode Go.Proofs.Ytfhnffondamhdaa.OwnSt Go.Proofs.Ytfhnffondamhdaa.OwnFn Go.Proofs.Ytfhnffondamhdaa.OwnTo Go.Proofs.Ytfhnffondamhdaa.OwnFs Go.Proofs.Ytfhnffondamhdaa.OwnMd Go.Proofs.Ytfhnffondamhdaa.OwnGs Go.Proofs.Ytfhnffondamhdaa.OwnBc Go.Proofs.Ytfhnffondamhdaa.OwnFb Go.Proofs.Ytfhnffondamhdaa.OwnFbC Go.Proofs.Ytfhnffondamhdaa.OwnSec Go.Proofs.Ytfhnffondamhdaa.OwnGsS Go.Proofs.Ytfhnffondamhdaa.OwnSecS Go.Proofs.Ytfhnffondamhdaa.OwnMb Go.Proofs.Ytfhnffondamhdaa.OwnMbI Go.Proofs.Ytfhnffondamhdaa.OwnMbW
set_option linter.unusedVariables false
set_option linter.unusedSimpArgs false
set_option maxRecDepth 100000 in
set_option maxHeartbeats 80000000 in
theorem l9_s (Af : Option Addr) (cf : Nat) (F : List Rec) (Ag : Option Addr) (cg : Nat) (G : List Glo) (mem : Bool) (pages most start : Int) (w : World) (hr : MdR w Af cf F Ag cg G) (hF : F.length ≤ 1048576) (hf : ∀ f ∈ F, lens f) (hG : G.length ≤ 1048576) (hS : -9223372036854775808 ≤ start) (hS2 : start ≤ 9223372036854775807) (hw : ∀ f ∈ F, ∀ p ∈ f.2.2.2, -9223372036854775808 ≤ p.2 ∧ p.2 < 9223372036854775808) (hg : ∀ g ∈ G, 0 ≤ g.2.2 ∧ g.2.2 < 18446744073709551616) (good : gsM F G mem pages most start = true) : Calls Try.prog 49 #[mdV Af cf F Ag cg G mem pages most start] w fun e w' => e = .returned (.tuple #[.string (mbG F G mem pages most start).1, .bool (mbG F G mem pages most start).2]) ∧ Below w.heap.size w w' := by
  have HR := Aside0.mk hr
  have g0 := good
  unfold gsM at g0
  simp only [Bool.and_eq_true, decide_eq_true_eq] at g0
  have L10 := Aside0.mk g0.1
  have L6 := Aside0.mk g0.2.1
  have HX := Aside0.mk (mbG_eq F G mem pages most start)
  have HBad := Aside0.mk (fun (h : ∃ i, ∃ h : i < F.length, (fbR F[i]).2 = false) => (show mbG F G mem pages most start = (⟨#[]⟩, false) from by obtain ⟨i, hi, hb⟩ := h; exact fs_bad i hi hb G mem pages most start))
  obtain ⟨W0, hW0⟩ : ∃ W0, W0 = w.alloc (.cells #[.slice Af F.length cf, .slice Ag G.length cg, .bool mem, .int .i64 pages, .int .i64 most, .int .i64 start] 37) := ⟨_, rfl⟩
  have HM0 : Aside0 (MC w W0 Af cf F.length Ag cg G.length mem pages most start) := ⟨by subst hW0; exact ⟨by go_simp, by go_simp, by go_simp, by go_simp, by go_simp, by go_simp, by simp, by with_reducible repeat first | exact Below.refl _ _ | refine below_alloc ?_ _ | refine below_drew1 ?_ | refine pw_below_drewN ?_ _⟩⟩
  have hs0 : W0.heap.size = w.heap.size + 1 := by subst hW0; simp
  have HLf := Aside0.mk hf
  have HW := Aside0.mk hw
  have HRf := Aside0.mk HR.out.f1
  have HWg := Aside0.mk hg
  have HF0 : Aside0 (0 < F.length → scF F = [(1, fsS F.length F)]) := ⟨fun h => if_pos h⟩
  have HF1 : Aside0 (¬ 0 < F.length → scF F = [] ∧ F.all (fun f => (fbR f).2) = true) := ⟨fun h => ⟨if_neg h, by cases F with | nil => rfl | cons x y => exact absurd (Nat.succ_pos _) h⟩⟩
  have HMem : Aside0 (mem = true → 0 ≤ pages ∧ pages ≤ most ∧ most ≤ 8) := ⟨gs_mem2 good⟩
  have HSt : Aside0 (start = -1 ∨ 0 ≤ start) := ⟨gs_st2 good⟩
  have HFl : Aside0 ((scF F).length ≤ 1) := ⟨by unfold scF; split <;> simp⟩
  generalize mbG F G mem pages most start = X at *
  clear g0 good hr hF hf hG hw hg
  go_enter Try.func49, Try.ntmps49
  go_upto_if 19 with fail
  have HE := Aside0.mk (Kd.R_nil kS 92 W0 W0.heap.size (fun _ => True))
  have HBE := Aside0.mk (Below.refl W0.heap.size W0)
  rw [← hW0]
  go_cut [4] (fun v4 wx => ∃ A c, v4 = .slice A (scF F).length c ∧ Aside0 (Kd.R kS 92 wx W0.heap.size (fun _ => True) (.slice A (scF F).length c) (scF F)) ∧ Aside0 (Below W0.heap.size W0 wx) ∧ Aside0 (F.all (fun f => (fbR f).2) = true))
  case first =>
    by_cases h : 0 < F.length
    · have hd : decide (0 < F.length) = true := decide_eq_true h
      have hd2 : decide ((0 : Int) < (F.length : Int)) = true := decide_eq_true (by omega)
      have HL := Aside0.mk (HF0.out h)
      have cu := fun W => uleb_s (F.length : Int) (by omega) (by have := L10.out; omega) W
      have ew0 : IntKind.u64.wrap (F.length : Int) = F.length := by rw [IntKind.wrap_u64]; have := L10.out; omega
      have H0 : Aside0 (ulebS (F.length : Int) = fsS F.length (F.take 0)) := ⟨by rw [List.take_zero]; rfl⟩
      rw [H0.out] at cu
      obtain ⟨c0, c1, c2, c3, c4, c5, clt, cbe⟩ := HM0.out
      clear hW0 hs0 H0
      go_wp2_with (first | (go_at_call 84; (with_reducible refine (cu _).mono ?_); rintro e w1 ⟨rfl, hb1⟩; have c0b := (MC.below HM0.out hb1).c0))
      have HB1 := Aside0.mk hb1
      clear hb1 cu ew0
      go_loopg [5, 28] F.length (fun kq v5 v28 w' => ∃ i : Nat, i + kq = F.length ∧ v28 = .int .i64 i ∧ v5 = .string (fsS F.length (F.take i)) ∧ Aside0 (∀ j, (h : j < F.length) → j < i → (fbR F[j]).2 = true) ∧ Aside0 (Below W0.heap.size W0 w'))
      case atStart => exact ⟨0, by omega, rfl, rfl, ⟨fun j _ h => absurd h (Nat.not_lt_zero _)⟩, HB1⟩
      case round =>
        clear HB1
        obtain ⟨i, hi, rfl, rfl, HA, HB⟩ := hrel
        cases gk with
        | zero =>
          obtain rfl : i = F.length := by omega
          have hd : decide ((F.length : Int) < (F.length : Int)) = false := decide_eq_false (by omega)
          have HQ := Aside0.mk (fs_ok (fun j h => HA.out j h h))
          rw [List.take_length]
          have HO2 := Aside0.mk (Kd.R_nil kS 92 wr W0.heap.size (fun _ => True))
          go_wp2_with (first | (at_builtin; refine app_sec (w0 := W0) HO2.out HB.out (1, fsS F.length F) (by simp) rfl _ _ rfl rfl _ rfl (by simp) ?_; intro v1 u1 R1 B1 G1; clear G1; obtain ⟨A1, d1, rfl⟩ := Kd.R_slice R1; have HR1 := Aside0.mk R1; have HB1 := Aside0.mk B1; clear R1 B1))
          go_meet
          case rel => exact ⟨A1, d1, by rw [HL.out]; rfl, ⟨by rw [HL.out]; exact HR1.out⟩, HB1, ⟨HQ.out⟩⟩
        | succ k1 =>
          have hil : i < F.length := by omega
          have hd : decide ((i : Int) < (F.length : Int)) = true := decide_eq_true (by omega)
          obtain ⟨ad, Ap, cp, Al, cl, Ab, cb, e, hx0, hx1, hx2, hx3, hRd⟩ := HRf.out i hil
          subst e
          have hbl := below_step HM0.out.bel HB.out
          replace hx0 := (hbl.cell (World.block_lt_of_cell? w _ hx0)).trans hx0
          replace hx1 := (hbl.cell (World.block_lt_of_cell? w _ hx1)).trans hx1
          replace hx2 := (hbl.cell (World.block_lt_of_cell? w _ hx2)).trans hx2
          replace hx3 := (hbl.cell (World.block_lt_of_cell? w _ hx3)).trans hx3
          have HRd := Aside0.mk (FnR.below hRd hbl)
          have HLi := Aside0.mk (HLf.out F[i] (List.getElem_mem hil))
          have HWi := Aside0.mk (HW.out F[i] (List.getElem_mem hil))
          have HSn := Aside0.mk (fsS_snoc F.length F i hil)
          have HSz := Aside0.mk (fsS_size F.length (by have := L10.out; omega) F i (by omega))
          have HBadI := Aside0.mk (fun (h : (fbR F[i]).2 = false) => (show ∃ j, ∃ hj : j < F.length, (fbR F[j]).2 = false from ⟨i, hil, h⟩))
          have HOk := Aside0.mk (fun (h : (fbR F[i]).2 = true) j (hj : j < F.length) (hji : j < i + 1) => (show (fbR F[j]).2 = true from by
            by_cases e : j = i
            · subst e; exact h
            · exact HA.out j hj (by omega)))
          have HFz := Aside0.mk (fbR_size F[i])
          clear hRd hbl HA
          have cf := fun W (B : Below wr.heap.size wr W) => fb_s Ap cp F[i].1 F[i].2.1 Al cl F[i].2.2.1 Ab cb F[i].2.2.2 W (FnR.below HRd.out B) HLi.out.1 HLi.out.2.1 HLi.out.2.2 HWi.out
          have eR : fbM F[i].1 F[i].2.1 F[i].2.2.1 F[i].2.2.2 = fbR F[i] := rfl
          rw [eR] at cf
          clear eR
          generalize fbR F[i] = q at *
          generalize F[i] = f at *
          obtain ⟨p, r, lo, b⟩ := f
          obtain ⟨s, ok⟩ := q
          simp only at cf HSn HFz HBadI HOk
          generalize fsS F.length (F.take i) = S at *
          have z1 : (9223372036854775807 < S.size + s.size) = False := eq_false (by have := HSz.out; have := HFz.out; have := L10.out; omega)
          have q1 : (0 : Int) ≤ (i : Int) := by omega
          have q2 : (i : Int) < (F.length : Int) := by omega
          have ew : IntKind.i64.wrap ((i : Int) + 1) = (i : Int) + 1 := by rw [IntKind.wrap_i64]; have := L10.out; omega
          cases ok with
          | false =>
            go_wp2_with (first | (go_at_call 25; (with_reducible refine (cf _ (by with_reducible repeat first | exact Below.refl _ _ | refine below_alloc ?_ _ | refine below_drew1 ?_ | refine pw_below_drewN ?_ _)).mono ?_); rintro e w2 ⟨rfl, hb2⟩))
            exact bodyPost_ret (v := .tuple #[.string ⟨#[]⟩, .bool false]) (by simp [results, Try.results49, go_sem]) rfl ⟨by rw [HBad.out (HBadI.out (by first | trivial | rfl))], below_step HM0.out.bel (below_step HB.out (by with_reducible repeat first | exact Below.refl _ _ | refine below_alloc ?_ _ | refine below_drew1 ?_ | refine pw_below_drewN ?_ _ | refine below_step ?_ hb2))⟩
          | true =>
            go_wp2_with (first | (go_at_call 25; (with_reducible refine (cf _ (by with_reducible repeat first | exact Below.refl _ _ | refine below_alloc ?_ _ | refine below_drew1 ?_ | refine pw_below_drewN ?_ _)).mono ?_); rintro e w2 ⟨rfl, hb2⟩))
            go_roundg k1
            case measure => omega
            case rel => exact ⟨i + 1, by omega, by rw [Int.natCast_add]; rfl, by rw [HSn.out], ⟨HOk.out (by first | trivial | rfl)⟩, ⟨below_step HB.out (by with_reducible repeat first | exact Below.refl _ _ | refine below_alloc ?_ _ | refine below_drew1 ?_ | refine pw_below_drewN ?_ _ | refine below_step ?_ hb2)⟩⟩
    · have hd : decide (0 < F.length) = false := decide_eq_false h
      have hd2 : decide ((0 : Int) < (F.length : Int)) = false := decide_eq_false (by omega)
      have HL := Aside0.mk (HF1.out h)
      go_wp2
      go_meet
      case rel => exact ⟨_, _, by rw [HL.out.1]; rfl, ⟨by rw [HL.out.1]; exact HE.out⟩, HBE, ⟨HL.out.2⟩⟩
  case rest =>
    clear HE HBE
    obtain ⟨A, c, rfl, HO, HB, HAll⟩ := hcut
    clear HF0 HF1 HBad
    obtain ⟨c0, c1, c2, c3, c4, c5, clt, cbe⟩ := MC.below HM0.out HB.out
    go_upto_if 49 with fail
    go_cut [4] (fun v4 wx => ∃ A c, v4 = .slice A (scF F ++ scM mem pages most).length c ∧ Aside0 (Kd.R kS 92 wx W0.heap.size (fun _ => True) (.slice A (scF F ++ scM mem pages most).length c) (scF F ++ scM mem pages most)) ∧ Aside0 (Below W0.heap.size W0 wx))
    case first =>
      skip
      cases mem with
      | true =>
        obtain ⟨m1, m2, m3⟩ := HMem.out rfl
        have cu1 := fun W => uleb_s pages m1 (by omega) W
        have cu2 := fun W => uleb_s most (by omega) (by omega) W
        have e1 : IntKind.u64.wrap pages = pages := by rw [IntKind.wrap_u64]; omega
        have e2 : IntKind.u64.wrap most = most := by rw [IntKind.wrap_u64]; omega
        have HU1 := Aside0.mk (ulebS_told pages m1 (by omega)).1
        have HU2 := Aside0.mk (ulebS_told most (by omega) (by omega)).1
        have HLM : Aside0 (scM true pages most = [(5, ulebS pages ++ ulebS most)]) := ⟨rfl⟩
        obtain ⟨U1, hU1⟩ : ∃ x, x = ulebS pages := ⟨_, rfl⟩
        obtain ⟨U2, hU2⟩ : ∃ x, x = ulebS most := ⟨_, rfl⟩
        rw [← hU1] at HU1 cu1 HLM
        rw [← hU2] at HU2 cu2 HLM
        clear hU1 hU2
        have x1 : (9223372036854775807 < U1.size + U2.size) = False := eq_false (by have := HU1.out; have := HU2.out; omega)
        clear c0 c1 c2 c5 cbe m1 m2 m3
        go_wp2
        go_region_held_law (fun w' => w'.cell? ⟨w.heap.size, 3, none⟩ = some (.int .i64 pages) ∧ w'.cell? ⟨w.heap.size, 4, none⟩ = some (.int .i64 most)) (refine ⟨?_, ?_⟩ <;> go_simp) (first | (go_at_call 84; (first | (with_reducible refine (cu1 _).mono ?_) | (with_reducible refine (cu2 _).mono ?_)); rintro e w2 ⟨rfl, hb2⟩; have hz2 : w.heap.size < w2.heap.size := (by have := hb2.size; first | omega | (simp at this; omega)); have j3 : w2.cell? ⟨w.heap.size, 3, none⟩ = some (.int .i64 pages) := (by rw [hb2.cell (by first | assumption | (simp; done) | (simp; omega))]; go_simp); have j4 : w2.cell? ⟨w.heap.size, 4, none⟩ = some (.int .i64 most) := (by rw [hb2.cell (by first | assumption | (simp; done) | (simp; omega))]; go_simp); (first | have HO := Aside0.mk (Kd.R_below HO.out hb2) | have HO := Aside0.mk (Kd.R_below (Kd.R_drew HO.out) hb2) | have HO := Aside0.mk (Kd.R_below (Kd.R_drewN HO.out _) hb2)); (first | have HB := Aside0.mk (below_step HB.out hb2) | have HB := Aside0.mk (below_step (below_drew HB.out) hb2) | have HB := Aside0.mk (below_step (pw_below_drewN HB.out _) hb2))) | ((first | (refine app_sec_step (w0 := W0) HO.out HB.out (5, U1 ++ U2) (by have := HFl.out; omega) rfl 62 rfl _ _ rfl rfl _ rfl (by simp) ?_) | (refine app_sec_step (w0 := W0) (Kd.R_drew HO.out) (below_drew HB.out) (5, U1 ++ U2) (by have := HFl.out; omega) rfl 62 rfl _ _ rfl rfl _ rfl (by simp) ?_)); intro v1 u1 R1 B1 G1; clear G1; obtain ⟨A1, d1, rfl⟩ := Kd.R_slice R1; have HR1 := Aside0.mk R1; have HB1 := Aside0.mk B1; have j3 := (MC.below HM0.out B1).c3; have j4 := (MC.below HM0.out B1).c4; clear R1 B1))
        all_goals
          first | (rename_i kk; refine kk _ _ ?_) | (rename_i kk _; refine kk _ _ ?_) | (rename_i kk _ _; refine kk _ _ ?_) | (rename_i kk _ _ _; refine kk _ _ ?_) | skip
          go_wp2_with (first | (at_builtin; refine app_sec (w0 := W0) HO.out HB.out (5, U1 ++ U2) (by have := HFl.out; omega) rfl _ _ rfl rfl _ rfl (by simp) ?_; intro v1 u1 R1 B1 G1; clear G1; obtain ⟨A1, d1, rfl⟩ := Kd.R_slice R1; have HR1 := Aside0.mk R1; have HB1 := Aside0.mk B1; clear R1 B1))
          go_meet
          case rel => exact ⟨A1, d1, by rw [HLM.out, List.length_append]; rfl, ⟨by rw [HLM.out]; first | exact HR1.out | exact (by rw [List.length_append] at HR1 ⊢; exact HR1.out)⟩, HB1⟩
      | false =>
        have HLM : Aside0 (scM false pages most = []) := ⟨rfl⟩
        go_wp2
        go_meet
        case rel => exact ⟨A, c, by rw [HLM.out, List.append_nil], ⟨by rw [HLM.out, List.append_nil]; exact HO.out⟩, HB⟩
    case rest =>
      clear HO HB c0 c1 c2 c3 c4 c5 clt cbe
      have HFl : Aside0 ((scF F ++ scM mem pages most).length ≤ 2) := ⟨by have := HFl.out; have : (scM mem pages most).length ≤ 1 := (by unfold scM; split <;> simp); rw [List.length_append]; omega⟩
      generalize scF F ++ scM mem pages most = L2 at hcut HX HFl
      obtain ⟨A, c, rfl, HO, HB⟩ := hcut
      obtain ⟨c0, c1, c2, c3, c4, c5, clt, cbe⟩ := MC.below HM0.out HB.out
      go_upto_if 66 with fail
      go_cut [4] (fun v4 wx => ∃ A c, v4 = .slice A (L2 ++ scG G).length c ∧ Aside0 (Kd.R kS 92 wx W0.heap.size (fun _ => True) (.slice A (L2 ++ scG G).length c) (L2 ++ scG G)) ∧ Aside0 (Below W0.heap.size W0 wx))
      case first =>
        by_cases h : 0 < G.length
        · have hd : decide (0 < G.length) = true := decide_eq_true h
          have hd2 : decide ((0 : Int) < (G.length : Int)) = true := decide_eq_true (by omega)
          have HLM : Aside0 (scG G = [(6, gsS G.length G)]) := ⟨if_pos h⟩
          have cu := fun W => uleb_s (G.length : Int) (by omega) (by have := L6.out; omega) W
          have ew0 : IntKind.u64.wrap (G.length : Int) = G.length := by rw [IntKind.wrap_u64]; have := L6.out; omega
          go_wp2_with (first | (go_at_call 84; (with_reducible refine (cu _).mono ?_); rintro e w1 ⟨rfl, hb1⟩; have c1b := (MC.below HM0.out (below_step HB.out hb1)).c1))
          have HBL1 := Aside0.mk hb1
          have HB1 := Aside0.mk (below_step HB.out hb1)
          clear hb1 cu ew0 HB
          go_loopg [10, 75] G.length (fun kq v10 v75 w' => ∃ i : Nat, i + kq = G.length ∧ v75 = .int .i64 i ∧ v10 = .string (gsS G.length (G.take i)) ∧ Aside0 (Below W0.heap.size W0 w') ∧ Aside0 (Below wc.heap.size wc w'))
          case atStart => exact ⟨0, by omega, rfl, rfl, HB1, HBL1⟩
          case round =>
            clear HB1
            obtain ⟨i, hi, rfl, rfl, HB, HBL⟩ := hrel
            cases gk with
            | zero =>
              obtain rfl : i = G.length := by omega
              have hd : decide ((G.length : Int) < (G.length : Int)) = false := decide_eq_false (by omega)
              rw [List.take_length]
              have HO2 := Aside0.mk (Kd.R_below HO.out HBL.out)
              go_wp2_with (first | (at_builtin; refine app_sec (w0 := W0) HO2.out HB.out (6, gsS G.length G) (by have := HFl.out; omega) rfl _ _ rfl rfl _ rfl (by simp) ?_; intro v1 u1 R1 B1 G1; clear G1; obtain ⟨A1, d1, rfl⟩ := Kd.R_slice R1; have HR1 := Aside0.mk R1; have HB1 := Aside0.mk B1; clear R1 B1))
              go_meet
              case rel => exact ⟨A1, d1, by rw [HLM.out, List.length_append]; rfl, ⟨by rw [HLM.out]; exact HR1.out⟩, HB1⟩
            | succ k1 =>
              have hil : i < G.length := by omega
              have hd : decide ((i : Int) < (G.length : Int)) = true := decide_eq_true (by omega)
              obtain ⟨ad, e, hx0, hx1, hx2⟩ := at_gl HR.out.g1 i hil
              subst e
              have hbl := below_step HM0.out.bel HB.out
              replace hx0 := (hbl.cell (World.block_lt_of_cell? w _ hx0)).trans hx0
              replace hx1 := (hbl.cell (World.block_lt_of_cell? w _ hx1)).trans hx1
              replace hx2 := (hbl.cell (World.block_lt_of_cell? w _ hx2)).trans hx2
              have HWi := Aside0.mk (HWg.out G[i] (List.getElem_mem hil))
              have HSn := Aside0.mk (gsS_snoc G.length G i hil)
              have HSz := Aside0.mk (gsS_size G.length (by have := L6.out; omega) G HWg.out i (by omega))
              clear hbl
              generalize G[i] = g at *
              obtain ⟨ty, fx, bt⟩ := g
              simp only at hx0 hx1 hx2 HWi
              generalize gsS G.length (G.take i) = S at *
              have q1 : (0 : Int) ≤ (i : Int) := by omega
              have q2 : (i : Int) < (G.length : Int) := by omega
              have ew : IntKind.i64.wrap ((i : Int) + 1) = (i : Int) + 1 := by rw [IntKind.wrap_i64]; have := L6.out; omega
              have cu2 := fun W => uleb_s bt HWi.out.1 HWi.out.2 W
              have ew2 : IntKind.u8.wrap ty = ty % 256 := by rw [IntKind.wrap_u8]
              have HU := Aside0.mk (ulebS_told bt HWi.out.1 HWi.out.2).1
              generalize hfz : (if fx = true then (1 : Int) else 0) = fz
              have HGl : Aside0 (glB (ty, fx, bt) = strOfNums [ty % 256, fz] ++ ulebS bt) := ⟨by rw [← hfz]; rfl⟩
              have HLz : Aside0 ((strOfNums [ty % 256, fz]).size = 2) := ⟨by rw [Pl.strOfNums_size]; rfl⟩
              rw [HGl.out] at HSn
              clear HGl
              have hl1 : ∀ X : World, (convert 111 9 (.slice (some ⟨X.heap.size, 0, none⟩) 2 2)).run Try.prog (X.alloc (.cells #[.int .u8 (ty % 256), .int .u8 fz] 5)) = .ok (.string (strOfNums [ty % 256, fz])) (X.alloc (.cells #[.int .u8 (ty % 256), .int .u8 fz] 5)) := fun X => lit_kept [ty % 256, fz] (by simp) X _ _ rfl (Below.refl _ _)
              have hl2 : ∀ o : Obj, (convert 111 9 (.slice (some ⟨wr.heap.size + 1, 0, none⟩) 2 2)).run Try.prog ((wr.alloc o).alloc (.cells #[.int .u8 (ty % 256), .int .u8 fz] 5)).drew = .ok (.string (strOfNums [ty % 256, fz])) ((wr.alloc o).alloc (.cells #[.int .u8 (ty % 256), .int .u8 fz] 5)).drew := fun o => lit_kept [ty % 256, fz] (by simp) (wr.alloc o) _ _ (by simp) (below_drew1 (Below.refl _ _))
              generalize hLT : strOfNums [ty % 256, fz] = LT at *
              generalize ulebS bt = U at *
              have x1 : (9223372036854775807 < LT.size + U.size) = False := eq_false (by have := HU.out; have := HLz.out; omega)
              have x2 : (9223372036854775807 < S.size + (LT ++ U).size) = False := eq_false (by rw [ByteArray.size_append]; have := HU.out; have := HLz.out; have := HSz.out; have := L6.out; omega)
              have x2' : (9223372036854775807 < S.size + (LT.size + U.size)) = False := eq_false (by have := HU.out; have := HLz.out; have := HSz.out; have := L6.out; omega)
              have HLT := Aside0.mk hLT
              clear hLT
              cases fx with
              | false =>
                obtain rfl : fz = 0 := by rw [← hfz]; rfl
                clear hfz
                go_wp2
                go_region_held_law (fun w' => w'.cell? ⟨wr.heap.size, 0, none⟩ = some (.int .i64 ty) ∧ w'.cell? ⟨wr.heap.size, 2, none⟩ = some (.int .u64 bt)) (refine ⟨?_, ?_⟩ <;> go_simp) (first | (go_at_call 84; (with_reducible refine (cu2 _).mono ?_); rintro e w2 ⟨rfl, hb2⟩; have hz2 : wr.heap.size < w2.heap.size := (by have := hb2.size; first | omega | (simp at this; omega)); (first | (have hv2 : (convert 111 9 (.slice (some ⟨wr.heap.size + 1, 0, none⟩) 2 2)).run Try.prog w2 = .ok (.string LT) w2 := (by rw [← HLT.out]; exact lit_kept [ty % 256, 0] (by simp) (wr.alloc (.cells #[.int .i64 ty, .bool false, .int .u64 bt] 79)) w2 _ (by simp) (below_step (below_drew1 (Below.refl _ _)) hb2))) | skip); have j0 : w2.cell? ⟨wr.heap.size, 0, none⟩ = some (.int .i64 ty) := (by rw [hb2.cell (by first | (simp; done) | (simp; omega))]; go_simp); have j2 : w2.cell? ⟨wr.heap.size, 2, none⟩ = some (.int .u64 bt) := (by rw [hb2.cell (by first | (simp; done) | (simp; omega))]; go_simp)))
                all_goals
                  first | (rename_i kk; refine kk _ _ ?_) | (rename_i kk _; refine kk _ _ ?_) | (rename_i kk _ _; refine kk _ _ ?_) | (rename_i kk _ _ _; refine kk _ _ ?_) | skip
                  go_wp2
                  go_roundg k1
                  case measure => omega
                  case rel => exact ⟨i + 1, by omega, by rw [Int.natCast_add]; rfl, by rw [HSn.out], ⟨below_step HB.out (by with_reducible repeat first | exact Below.refl _ _ | refine below_alloc ?_ _ | refine below_drew1 ?_ | refine pw_below_drewN ?_ _ | refine below_step ?_ hb2)⟩, ⟨below_step HBL.out (by with_reducible repeat first | exact Below.refl _ _ | refine below_alloc ?_ _ | refine below_drew1 ?_ | refine pw_below_drewN ?_ _ | refine below_step ?_ hb2)⟩⟩
              | true =>
                obtain rfl : fz = 1 := by rw [← hfz]; rfl
                clear hfz
                go_wp2
                go_region_held_law (fun w' => w'.cell? ⟨wr.heap.size, 0, none⟩ = some (.int .i64 ty) ∧ w'.cell? ⟨wr.heap.size, 2, none⟩ = some (.int .u64 bt)) (refine ⟨?_, ?_⟩ <;> go_simp) (first | (go_at_call 84; (with_reducible refine (cu2 _).mono ?_); rintro e w2 ⟨rfl, hb2⟩; have hz2 : wr.heap.size < w2.heap.size := (by have := hb2.size; first | omega | (simp at this; omega)); (first | (have hv2 : (convert 111 9 (.slice (some ⟨wr.heap.size + 1, 0, none⟩) 2 2)).run Try.prog w2 = .ok (.string LT) w2 := (by rw [← HLT.out]; exact lit_kept [ty % 256, 1] (by simp) (wr.alloc (.cells #[.int .i64 ty, .bool true, .int .u64 bt] 79)) w2 _ (by simp) (below_step (below_drew1 (Below.refl _ _)) hb2))) | skip); have j0 : w2.cell? ⟨wr.heap.size, 0, none⟩ = some (.int .i64 ty) := (by rw [hb2.cell (by first | (simp; done) | (simp; omega))]; go_simp); have j2 : w2.cell? ⟨wr.heap.size, 2, none⟩ = some (.int .u64 bt) := (by rw [hb2.cell (by first | (simp; done) | (simp; omega))]; go_simp)))
                all_goals
                  first | (rename_i kk; refine kk _ _ ?_) | (rename_i kk _; refine kk _ _ ?_) | (rename_i kk _ _; refine kk _ _ ?_) | (rename_i kk _ _ _; refine kk _ _ ?_) | skip
                  go_wp2
                  go_roundg k1
                  case measure => omega
                  case rel => exact ⟨i + 1, by omega, by rw [Int.natCast_add]; rfl, by rw [HSn.out], ⟨below_step HB.out (by with_reducible repeat first | exact Below.refl _ _ | refine below_alloc ?_ _ | refine below_drew1 ?_ | refine pw_below_drewN ?_ _ | refine below_step ?_ hb2)⟩, ⟨below_step HBL.out (by with_reducible repeat first | exact Below.refl _ _ | refine below_alloc ?_ _ | refine below_drew1 ?_ | refine pw_below_drewN ?_ _ | refine below_step ?_ hb2)⟩⟩
        · have hd : decide (0 < G.length) = false := decide_eq_false h
          have hd2 : decide ((0 : Int) < (G.length : Int)) = false := decide_eq_false (by omega)
          have HLM : Aside0 (scG G = []) := ⟨if_neg h⟩
          go_wp2
          go_meet
          case rel => exact ⟨A, c, by rw [HLM.out, List.append_nil], ⟨by rw [HLM.out, List.append_nil]; exact HO.out⟩, HB⟩
      case rest =>
        clear HO HB c0 c1 c2 c3 c4 c5 clt cbe
        have HFl : Aside0 ((L2 ++ scG G).length ≤ 3) := ⟨by have := HFl.out; have : (scG G).length ≤ 1 := (by unfold scG; split <;> simp); rw [List.length_append]; omega⟩
        generalize L2 ++ scG G = L3 at hcut HX HFl
        obtain ⟨A, c, rfl, HO, HB⟩ := hcut
        obtain ⟨c0, c1, c2, c3, c4, c5, clt, cbe⟩ := MC.below HM0.out HB.out
        go_upto_if 101 with fail
        go_cut [4] (fun v4 wx => ∃ A c, v4 = .slice A (L3 ++ scT start).length c ∧ Aside0 (Kd.R kS 92 wx W0.heap.size (fun _ => True) (.slice A (L3 ++ scT start).length c) (L3 ++ scT start)) ∧ Aside0 (Below W0.heap.size W0 wx))
        case first =>
          by_cases h : start = -1
          · have hd : decide (0 ≤ start) = false := decide_eq_false (by omega)
            have hd2 : decide (start < 0) = true := decide_eq_true (by omega)
            have HLM : Aside0 (scT start = []) := ⟨if_pos h⟩
            go_wp2
            go_meet
            case rel => exact ⟨A, c, by rw [HLM.out, List.append_nil], ⟨by rw [HLM.out, List.append_nil]; exact HO.out⟩, HB⟩
          · have h0 : 0 ≤ start := by have := HSt.out; omega
            have hd : decide (0 ≤ start) = true := decide_eq_true h0
            have hd2 : decide (start < 0) = false := decide_eq_false (by omega)
            have HLM : Aside0 (scT start = [(8, ulebS start)]) := ⟨if_neg h⟩
            have cu1 := fun W => uleb_s start h0 (by omega) W
            have e1 : IntKind.u64.wrap start = start := by rw [IntKind.wrap_u64]; omega
            go_wp2_with (first | (go_at_call 84; (with_reducible refine (cu1 _).mono ?_); rintro e w2 ⟨rfl, hb2⟩; have HO2 := Aside0.mk (Kd.R_below HO.out hb2); have HB2 := Aside0.mk (below_step HB.out hb2)) | (at_builtin; refine app_sec (w0 := W0) HO2.out HB2.out (8, ulebS start) (by have := HFl.out; omega) rfl _ _ rfl rfl _ rfl (by simp) ?_; intro v1 u1 R1 B1 G1; clear G1; obtain ⟨A1, d1, rfl⟩ := Kd.R_slice R1; have HR1 := Aside0.mk R1; have HB1 := Aside0.mk B1; clear R1 B1))
            go_meet
            case rel => exact ⟨A1, d1, by rw [HLM.out, List.length_append]; rfl, ⟨by rw [HLM.out]; first | exact HR1.out | exact (by rw [List.length_append] at *; exact HR1.out)⟩, HB1⟩
        case rest =>
          clear HO HB c0 c1 c2 c3 c4 c5 clt cbe
          have HFl : Aside0 ((L3 ++ scT start).length ≤ 4) := ⟨by have := HFl.out; have : (scT start).length ≤ 1 := (by unfold scT; split <;> simp); rw [List.length_append]; omega⟩
          generalize L3 ++ scT start = L4 at hcut HX HFl
          obtain ⟨A, c, rfl, HO, HB⟩ := hcut
          have HX := Aside0.mk (HX.out HAll.out)
          have HSz := Aside0.mk (secM_size L4)
          obtain ⟨r1, r2, r3⟩ := Kd.R_reads' HO.out
          have cs := spec_sec A c L4 wc r3 r2 (by have := HFl.out; omega)
          clear r1 r2 r3
          obtain ⟨sq, hsq⟩ : ∃ x, x = secM L4 := ⟨_, rfl⟩
          rw [← hsq] at cs HX HSz
          obtain ⟨s, ok⟩ := sq
          clear hsq
          simp only at cs HX HSz
          have cb : ∀ W, Calls Try.prog 86 #[.int .u64 1836085504, .int .i64 4] W fun e w' => e = .returned (.string (bytesM 1836085504 4)) ∧ Below W.heap.size W w' := fun W => bytes_s 1836085504 4 (by omega) (by omega) W
          have hb4 : (bytesM 1836085504 4).size = 4 := by
            unfold bytesM
            rw [Pl.strOfNums_size]
            rfl
          have x1 : (9223372036854775807 < (bytesM 1836085504 4).size + s.size) = False := eq_false (by have := HSz.out; rw [hb4]; omega)
          clear hb4
          go_upto_if 116 with (first | (go_at_call 85; (with_reducible refine cs.mono ?_); rintro e w2 ⟨rfl, hb2⟩))
          have HB2 := Aside0.mk (below_step HB.out hb2)
          cases ok with
          | true =>
            have HX := Aside0.mk (HX.out.trans (if_pos rfl))
            go_wp2_with (first | (go_at_call 86; (with_reducible refine (cb _).mono ?_); rintro e w3 ⟨rfl, hb3⟩))
            refine bodyPost_ret (v := .tuple #[.string (bytesM 1836085504 4 ++ s), .bool true]) (by simp [results, Try.results49, go_sem]) rfl ⟨by rw [HX.out]; first | rfl | simp, below_step HM0.out.bel (below_step HB2.out hb3)⟩
          | false =>
            have HX := Aside0.mk (HX.out.trans (if_neg (by decide)))
            go_wp2
            refine bodyPost_ret (v := .tuple #[.string ⟨#[]⟩, .bool false]) (by simp [results, Try.results49, go_sem]) rfl ⟨by rw [HX.out], below_step HM0.out.bel HB2.out⟩
end Go.Proofs.Ytfhnffondamhdaa.OwnMbS
namespace Go.Proofs.Ytfhnffondamhdaa.OwnMbT
open Go Go.RowKit Go.Proofs.YtfhnffondamhdaaW.PrintWords Go.Proofs.YtfhnffondamhdaaW.PrintLast Go.Proofs.YtfhnffondamhdaaW.PrintMore Go.Proofs.Ytfhnffondamhdaa.OwnBs Go.Proofs.Ytfhnffondamhdaa.OwnKp Go.Proofs.Ytfhnffondamhdaa.OwnBytes Go.Proofs.Ytfhnffondamhdaa.OwnCode Go.Proofs.Ytfhnffondamhdaa.OwnSt Go.Proofs.Ytfhnffondamhdaa.OwnFn Go.Proofs.Ytfhnffondamhdaa.OwnTo Go.Proofs.Ytfhnffondamhdaa.OwnFs Go.Proofs.Ytfhnffondamhdaa.OwnMd Go.Proofs.Ytfhnffondamhdaa.OwnGs Go.Proofs.Ytfhnffondamhdaa.OwnBc Go.Proofs.Ytfhnffondamhdaa.OwnFb Go.Proofs.Ytfhnffondamhdaa.OwnFbC Go.Proofs.Ytfhnffondamhdaa.OwnSec Go.Proofs.Ytfhnffondamhdaa.OwnGsS Go.Proofs.Ytfhnffondamhdaa.OwnSecS Go.Proofs.Ytfhnffondamhdaa.OwnMb Go.Proofs.Ytfhnffondamhdaa.OwnMbI Go.Proofs.Ytfhnffondamhdaa.OwnMbW Go.Proofs.Ytfhnffondamhdaa.OwnMbS
set_option linter.unusedVariables false
set_option linter.unusedSimpArgs false
set_option maxRecDepth 100000 in
set_option maxHeartbeats 8000000 in
/-- spec.ModuleBytes tells mbM. -/
theorem mb_s (Af : Option Addr) (cf : Nat) (F : List Rec) (Ag : Option Addr) (cg : Nat) (G : List Glo) (mem : Bool) (pages most start : Int) (w : World) (hr : MdR w Af cf F Ag cg G) (hF : F.length ≤ 1048576) (hf : ∀ f ∈ F, lens f) (hG : G.length ≤ 1048576) (hS : -9223372036854775808 ≤ start) (hS2 : start ≤ 9223372036854775807) (hw : ∀ f ∈ F, ∀ p ∈ f.2.2.2, -9223372036854775808 ≤ p.2 ∧ p.2 < 9223372036854775808) (hg : ∀ g ∈ G, 0 ≤ g.2.2 ∧ g.2.2 < 18446744073709551616) : Calls Try.prog 17 #[mdV Af cf F Ag cg G mem pages most start] w fun e w' => e = .returned (.tuple #[.string (mbM F G mem pages most start).1, .bool (mbM F G mem pages most start).2]) ∧ Below w.heap.size w w' := by
  have HR := Aside0.mk hr
  have c1 := fun W (B : Below w.heap.size w W) => gsh_s Af cf F Ag cg G mem pages most start W (HR.out.below B) hF hf hG hS hS2
  unfold mbM
  by_cases good : gsM F G mem pages most start = true
  · rw [if_pos good]
    have c2 := fun W (B : Below w.heap.size w W) => l9_s Af cf F Ag cg G mem pages most start W (HR.out.below B) hF hf hG hS hS2 hw hg good
    rw [good] at c1
    clear good hr hF hf hG hw hg
    generalize mbG F G mem pages most start = res at *
    obtain ⟨rs, rb⟩ := res
    go_enter Try.func17, Try.ntmps17
    go_wp2_with (first | (go_at_call 29; (with_reducible refine (c1 _ (by with_reducible repeat first | exact Below.refl _ _ | refine below_alloc ?_ _ | refine below_drew1 ?_ | refine pw_below_drewN ?_ _)).mono ?_); rintro e w1 ⟨rfl, hb1⟩; obtain ⟨hc1, hf1⟩ := bcell hb1) | (go_at_call 49; (with_reducible refine (c2 _ (by with_reducible repeat first | exact Below.refl _ _ | refine below_alloc ?_ _ | refine below_drew1 ?_ | refine pw_below_drewN ?_ _ | refine below_step ?_ hb1)).mono ?_); rintro e w2 ⟨rfl, hb2⟩))
    refine bodyPost_ret (v := .tuple #[.string rs, .bool rb]) (by simp [results, Try.results17, go_sem]) rfl ⟨rfl, ?_⟩
    with_reducible repeat first | exact Below.refl _ _ | refine below_alloc ?_ _ | refine below_drew1 ?_ | refine pw_below_drewN ?_ _ | refine below_step ?_ hb1 | refine below_step ?_ hb2
  · rw [if_neg good]
    rw [Bool.not_eq_true] at good
    rw [good] at c1
    clear good hr hF hf hG hw hg
    go_enter Try.func17, Try.ntmps17
    go_wp2_with (first | (go_at_call 29; (with_reducible refine (c1 _ (by with_reducible repeat first | exact Below.refl _ _ | refine below_alloc ?_ _ | refine below_drew1 ?_ | refine pw_below_drewN ?_ _)).mono ?_); rintro e w1 ⟨rfl, hb1⟩))
    refine bodyPost_ret (v := .tuple #[.string ⟨#[]⟩, .bool false]) (by simp [results, Try.results17, go_sem]) rfl ⟨rfl, ?_⟩
    with_reducible repeat first | exact Below.refl _ _ | refine below_alloc ?_ _ | refine below_drew1 ?_ | refine pw_below_drewN ?_ _ | refine below_step ?_ hb1
end Go.Proofs.Ytfhnffondamhdaa.OwnMbT
namespace Go.Proofs.Ytfhnffondamhdaa.OwnMbL
open Go Go.RowKit Go.Proofs.YtfhnffondamhdaaW.PrintWords Go.Proofs.YtfhnffondamhdaaW.PrintLast Go.Proofs.YtfhnffondamhdaaW.PrintMore Go.Proofs.Ytfhnffondamhdaa.OwnBs Go.Proofs.Ytfhnffondamhdaa.OwnKp Go.Proofs.Ytfhnffondamhdaa.OwnCode Go.Proofs.Ytfhnffondamhdaa.OwnSt Go.Proofs.Ytfhnffondamhdaa.OwnFn Go.Proofs.Ytfhnffondamhdaa.OwnFs Go.Proofs.Ytfhnffondamhdaa.OwnMd Go.Proofs.Ytfhnffondamhdaa.OwnMdW Go.Proofs.Ytfhnffondamhdaa.OwnMdQ Go.Proofs.Ytfhnffondamhdaa.OwnMdE Go.Proofs.Ytfhnffondamhdaa.OwnGs Go.Proofs.Ytfhnffondamhdaa.OwnGsI Go.Proofs.Ytfhnffondamhdaa.OwnGsS Go.Proofs.Ytfhnffondamhdaa.OwnMb Go.Proofs.Ytfhnffondamhdaa.OwnMbW Go.Proofs.Ytfhnffondamhdaa.OwnMbT
set_option linter.unusedVariables false
set_option linter.unusedSimpArgs false
set_option maxRecDepth 100000 in
set_option maxHeartbeats 40000000 in
theorem law_ModuleBytes (Af : Option Addr) (cf : Nat) (F : List Rec) (Ag : Option Addr) (cg : Nat) (G : List Glo) (mem : Bool) (pages most start : Int) (w : World) (hr : MdR w Af cf F Ag cg G) (hF0 : F.length ≤ 9223372036854775807) (hf0 : ∀ f ∈ F, lens0 f) (hG0 : G.length ≤ 9223372036854775807) (hS : -9223372036854775808 ≤ start) (hS2 : start ≤ 9223372036854775807) (hw : ∀ f ∈ F, ∀ p ∈ f.2.2.2, -9223372036854775808 ≤ p.2 ∧ p.2 < 9223372036854775808) (hg : ∀ g ∈ G, 0 ≤ g.2.2 ∧ g.2.2 < 18446744073709551616) : Calls Try.prog 4 #[mdV Af cf F Ag cg G mem pages most start] w fun e w' => e = .returned (.bool true) ∧ Below w.heap.size w w' := by
  have HR := Aside0.mk hr
  have HW := Aside0.mk hw
  have HWg := Aside0.mk hg
  have cz := fun W (B : Below w.heap.size w W) => szMd Af cf F Ag cg G mem pages most start 1048576 W (HR.out.below B) (by decide) (by decide) hF0
  by_cases z : szM F G 1048576 < 0
  · clear hr hw hg hF0 hf0 hG0
    generalize szM F G 1048576 = q at *
    have hd : decide (q < 0) = true := decide_eq_true z
    go_enter Try.func4, Try.ntmps4
    go_wp2_with (first
      | (go_at_call 9; (fail_if_success (have _ := hb1)); (with_reducible refine (cz _ (by repeat (first | (with_reducible exact Below.refl _ _) | (with_reducible refine below_alloc ?_ _) | (with_reducible refine below_drew1 ?_) | (with_reducible refine pw_below_drewN ?_ _) | (with_reducible refine below_set ?_ (by omega))))).mono ?_); rintro e w1 ⟨rfl, hb1⟩; obtain ⟨hc1, hf1⟩ := bcell hb1; have hz1_0_0 : w.heap.size < w1.heap.size := (by have := hb1.size; first | omega | (simp at this; omega))))
    refine bodyPost_ret (v := .bool true) (by simp [results, Try.results4, go_sem, hc1, hf1, hz1_0_0]) rfl ⟨rfl, ?_⟩
    repeat (first | (with_reducible exact Below.refl _ _) | (with_reducible refine below_alloc ?_ _) | (with_reducible refine below_drew1 ?_) | (with_reducible refine pw_below_drewN ?_ _) | (with_reducible refine below_set ?_ (by omega)) | (with_reducible refine below_step ?_ hb1))
  · obtain ⟨gF, gf, gG, _, _⟩ := szM_le hF0 hf0 hG0 (by decide) (by decide) z
    have LF := Aside0.mk gF
    have Lf := Aside0.mk gf
    have LG := Aside0.mk gG
    have ct := fun W (B : Below w.heap.size w W) => toMd Af cf F Ag cg G mem pages most start W (HR.out.below B) LF.out Lf.out LG.out
    have cs := fun Af' cf' Ag' cg' W R => mb_s Af' cf' F Ag' cg' G mem pages most start W R LF.out Lf.out LG.out hS hS2 HW.out HWg.out
    have ci := fun Af' cf' Ag' cg' W R => mb_i Af' cf' F Ag' cg' G mem pages most start W R LF.out Lf.out LG.out hS hS2 HW.out HWg.out
    have ce := fun Af' cf' Ag' cg' Bf df Bg dg W R R' => eqMd Af' cf' F Ag' cg' G mem pages most start Bf df Bg dg W R R' LF.out Lf.out LG.out
    clear hr hw hg hF0 hf0 hG0 gF gf gG
    generalize szM F G 1048576 = q at *
    have hd : decide (q < 0) = false := decide_eq_false z
    generalize mbM F G mem pages most start = res at *
    obtain ⟨rs, rb⟩ := res
    go_enter Try.func4, Try.ntmps4
    go_wp2_with (first
      | (go_at_call 18; (fail_if_success (have _ := hb5)); have _ := hb4; (with_reducible refine (ci A4 c4 D4 d4 _ (R4.out.below (by repeat (first | (with_reducible exact Below.refl _ _) | (with_reducible refine below_alloc ?_ _) | (with_reducible refine below_drew1 ?_) | (with_reducible refine pw_below_drewN ?_ _) | (with_reducible refine below_set ?_ (by omega)))))).mono ?_); rintro e w5 ⟨rfl, hb5⟩; obtain ⟨hc5, hf5⟩ := bcell hb5; have hz5_0_0 : w.heap.size < w5.heap.size := (by have := hb5.size; first | omega | (simp at this; omega)); have hz5_4_0 : w4.heap.size < w5.heap.size := (by have := hb5.size; first | omega | (simp at this; omega)))
      | (go_at_call 12; (fail_if_success (have _ := hb4)); have _ := hb3; (with_reducible refine (ct _ (by repeat (first | (with_reducible exact Below.refl _ _) | (with_reducible refine below_alloc ?_ _) | (with_reducible refine below_drew1 ?_) | (with_reducible refine pw_below_drewN ?_ _) | (with_reducible refine below_set ?_ (by omega)) | (with_reducible refine below_step ?_ hb3) | (with_reducible refine below_step ?_ hb2) | (with_reducible refine below_step ?_ hb1)))).mono ?_); rintro e w4 ⟨A4, c4, D4, d4, rfl, R4, hb4⟩; obtain ⟨hc4, hf4⟩ := bcell hb4; have hz4_0_0 : w.heap.size < w4.heap.size := (by have := hb4.size; first | omega | (simp at this; omega)); replace R4 := Aside0.mk R4)
      | (go_at_call 17; (fail_if_success (have _ := hb3)); have _ := hb2; (with_reducible refine (cs A2 c2 D2 d2 _ (R2.out.below (by repeat (first | (with_reducible exact Below.refl _ _) | (with_reducible refine below_alloc ?_ _) | (with_reducible refine below_drew1 ?_) | (with_reducible refine pw_below_drewN ?_ _) | (with_reducible refine below_set ?_ (by omega)))))).mono ?_); rintro e w3 ⟨rfl, hb3⟩; obtain ⟨hc3, hf3⟩ := bcell hb3; have hz3_0_0 : w.heap.size < w3.heap.size := (by have := hb3.size; first | omega | (simp at this; omega)))
      | (go_at_call 12; (fail_if_success (have _ := hb2)); have _ := hb1; (with_reducible refine (ct _ (by repeat (first | (with_reducible exact Below.refl _ _) | (with_reducible refine below_alloc ?_ _) | (with_reducible refine below_drew1 ?_) | (with_reducible refine pw_below_drewN ?_ _) | (with_reducible refine below_set ?_ (by omega)) | (with_reducible refine below_step ?_ hb1)))).mono ?_); rintro e w2 ⟨A2, c2, D2, d2, rfl, R2, hb2⟩; obtain ⟨hc2, hf2⟩ := bcell hb2; have hz2_0_0 : w.heap.size < w2.heap.size := (by have := hb2.size; first | omega | (simp at this; omega)); replace R2 := Aside0.mk R2)
      | (go_at_call 9; (fail_if_success (have _ := hb1)); (with_reducible refine (cz _ (by repeat (first | (with_reducible exact Below.refl _ _) | (with_reducible refine below_alloc ?_ _) | (with_reducible refine below_drew1 ?_) | (with_reducible refine pw_below_drewN ?_ _) | (with_reducible refine below_set ?_ (by omega))))).mono ?_); rintro e w1 ⟨rfl, hb1⟩; obtain ⟨hc1, hf1⟩ := bcell hb1; have hz1_0_0 : w.heap.size < w1.heap.size := (by have := hb1.size; first | omega | (simp at this; omega))))
    go_region_with (first
      | (go_at_call 15; (fail_if_success (have _ := hb7)); have _ := hb6; (with_reducible refine (ce A4 c4 D4 d4 A6 c6 D6 d6 _ (R4.out.below (by repeat (first | (with_reducible exact Below.refl _ _) | (with_reducible refine below_alloc ?_ _) | (with_reducible refine below_drew1 ?_) | (with_reducible refine pw_below_drewN ?_ _) | (with_reducible refine below_set ?_ (by omega)) | (with_reducible refine below_step ?_ hb6) | (with_reducible refine below_step ?_ hb5)))) (R6.out.below (by repeat (first | (with_reducible exact Below.refl _ _) | (with_reducible refine below_alloc ?_ _) | (with_reducible refine below_drew1 ?_) | (with_reducible refine pw_below_drewN ?_ _) | (with_reducible refine below_set ?_ (by omega)))))).mono ?_); rintro e w7 ⟨rfl, hb7⟩; have hbq7 : Below w6.heap.size w6 w7 := below_step (by repeat (first | (with_reducible exact Below.refl _ _) | (with_reducible refine below_alloc ?_ _) | (with_reducible refine below_drew1 ?_))) hb7; have hc7 : ∀ b o, b < w6.heap.size → w7.cell? ⟨b, o, none⟩ = w6.cell? ⟨b, o, none⟩ := (bcell hbq7).1; have hf7 : ∀ b o, b < w6.heap.size → w7.frozen? ⟨b, o, none⟩ = w6.frozen? ⟨b, o, none⟩ := (bcell hbq7).2; have hz7_0_0 : w.heap.size < w7.heap.size := (by have := hb7.size; first | omega | (simp at this; omega)); have hz7_4_0 : w4.heap.size < w7.heap.size := (by have := hb7.size; first | omega | (simp at this; omega)))
      | (go_at_call 12; (fail_if_success (have _ := hb6)); have _ := hb5; (with_reducible refine (ct _ (by repeat (first | (with_reducible exact Below.refl _ _) | (with_reducible refine below_alloc ?_ _) | (with_reducible refine below_drew1 ?_) | (with_reducible refine pw_below_drewN ?_ _) | (with_reducible refine below_set ?_ (by omega)) | (with_reducible refine below_step ?_ hb5) | (with_reducible refine below_step ?_ hb4) | (with_reducible refine below_step ?_ hb3) | (with_reducible refine below_step ?_ hb2) | (with_reducible refine below_step ?_ hb1)))).mono ?_); rintro e w6 ⟨A6, c6, D6, d6, rfl, R6, hb6⟩; have hbq6 : Below w5.heap.size w5 w6 := below_step (by repeat (first | (with_reducible exact Below.refl _ _) | (with_reducible refine below_alloc ?_ _) | (with_reducible refine below_drew1 ?_))) hb6; have hc6 : ∀ b o, b < w5.heap.size → w6.cell? ⟨b, o, none⟩ = w5.cell? ⟨b, o, none⟩ := (bcell hbq6).1; have hf6 : ∀ b o, b < w5.heap.size → w6.frozen? ⟨b, o, none⟩ = w5.frozen? ⟨b, o, none⟩ := (bcell hbq6).2; have hz6_0_0 : w.heap.size < w6.heap.size := (by have := hb6.size; first | omega | (simp at this; omega)); have hz6_4_0 : w4.heap.size < w6.heap.size := (by have := hb6.size; first | omega | (simp at this; omega)); replace R6 := Aside0.mk R6))
    all_goals
      simp only [Exit.then]
      first | (rename_i kk; refine kk _ _ ?_) | (rename_i kk _; refine kk _ _ ?_) | (rename_i kk _ _; refine kk _ _ ?_) | (rename_i kk _ _ _; refine kk _ _ ?_) | (rename_i kk _ _ _ _; refine kk _ _ ?_)
      go_wp2
      refine bodyPost_ret (v := .bool true) (by simp [results, Try.results4, go_sem, hc1, hf1, hz1_0_0, hc2, hf2, hz2_0_0, hc3, hf3, hz3_0_0, hc4, hf4, hz4_0_0, hc5, hf5, hz5_0_0, hc6, hf6, hz6_0_0, hc7, hf7, hz7_0_0, hz5_4_0, hz6_4_0, hz7_4_0]) rfl ⟨rfl, ?_⟩
      repeat (first | (with_reducible exact Below.refl _ _) | (with_reducible refine below_alloc ?_ _) | (with_reducible refine below_drew1 ?_) | (with_reducible refine pw_below_drewN ?_ _) | (with_reducible refine below_set ?_ (by omega)) | (with_reducible refine below_step ?_ hb7) | (with_reducible refine below_step ?_ hb6) | (with_reducible refine below_step ?_ hb5) | (with_reducible refine below_step ?_ hb4) | (with_reducible refine below_step ?_ hb3) | (with_reducible refine below_step ?_ hb2) | (with_reducible refine below_step ?_ hb1))
end Go.Proofs.Ytfhnffondamhdaa.OwnMbL
