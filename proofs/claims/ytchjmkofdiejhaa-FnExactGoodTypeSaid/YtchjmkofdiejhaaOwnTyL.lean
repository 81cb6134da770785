/- GoodType: the law, by a walk of our own. -/
import Derived.Test.YtchjmkofdiejhaaOwnTyW
import Derived.BigRegion
namespace Go.Proofs.Ytchjmkofdiejhaa.OwnTyL
open Go Go.RowKit Go.Proofs.YtchjmkofdiejhaaW.PrintWords Go.Proofs.YtchjmkofdiejhaaW.PrintLast Go.Proofs.YtchjmkofdiejhaaW.PrintMore Go.Proofs.Ytchjmkofdiejhaa.PFnExactGoodType Go.Proofs.Ytchjmkofdiejhaa.OwnTyP Go.Proofs.Ytchjmkofdiejhaa.OwnTyQ Go.Proofs.Ytchjmkofdiejhaa.OwnTyW
set_option linter.unusedVariables false
set_option linter.unusedSimpArgs false
def cv (x : S37) : S31 := ⟨x.f0, x.f1, x.f2⟩
theorem toS_told (l : List S37) (hl : l.length ≤ 1048576) : Ev (fun k => laws_toTypeNodeS.f k l) (l.map cv) := by
  have hL : (l.map cv).length = l.length := List.length_map _
  have key : ∀ (m i : Nat), i + m = l.length → Ev (fun k => laws_toTypeNodeS.l0 k l ((l.map cv).take i ++ List.replicate ((l.map cv).length - i) z31) i) (l.map cv) := by
    intro m
    induction m with
    | zero =>
      intro i hi
      refine Pl.ev_const 1 fun k => ?_
      simp only [laws_toTypeNodeS.l0]
      rw [if_neg (by omega), show (l.map cv).length - i = 0 by omega, List.take_of_length_le (by omega)]
      simp
    | succ m ih =>
      intro i hi
      have hil : i < l.length := by omega
      refine Pl.ev_skip 1 (fun k => ?_) (ih (i + 1) (by omega))
      have hs := Pl.set_step (l.map cv) z31 z31 i (by omega)
      have hz := Pl.set_step_len (l.map cv) z31 i (by omega)
      simp only [laws_toTypeNodeS.l0, laws_toTypeNode.f, Option.bind_some]
      rw [if_pos (by omega), if_pos (by omega), if_pos (by omega), Pl.w64s i l.length hil (by omega), Int.toNat_natCast, ← hs]
      congr 2
      unfold rd_T37
      simp [List.getD_eq_getElem?_getD, List.getElem?_map, hil, cv]
  refine Ev.congr (fun k => ?_) (key l.length 0 (by omega))
  unfold laws_toTypeNodeS.f
  rw [if_pos (by omega), if_pos (by omega), Int.toNat_natCast, hL]
  rfl
theorem eqS_told (L : List S31) (hl : L.length ≤ 1048576) : Ev (fun k => laws_eqTypeNodeS.f k L L) true := by
  have key : ∀ (m i : Nat), i + m = L.length → Ev (fun k => laws_eqTypeNodeS.l0 k L L i) true := by
    intro m
    induction m with
    | zero =>
      intro i hi
      refine Pl.ev_const 1 fun k => ?_
      simp only [laws_eqTypeNodeS.l0]
      rw [if_neg (by omega)]
    | succ m ih =>
      intro i hi
      refine Pl.ev_skip 1 (fun k => ?_) (ih (i + 1) (by omega))
      simp only [laws_eqTypeNodeS.l0, laws_eqTypeNode.f, if_true, Option.bind_some]
      rw [if_pos (by omega), if_pos (by omega), if_pos (by omega), Pl.w64s i L.length (by omega) (by omega)]
  refine Ev.congr (fun k => ?_) (key L.length 0 (by omega))
  unfold laws_eqTypeNodeS.f
  rw [if_pos rfl]
  rfl
set_option maxRecDepth 100000 in
set_option maxHeartbeats 8000000 in
theorem gt_i (A : Option Addr) (c : Nat) (l : List S31) (w : World) (hr : Kd.C k31 w A l.length l) (hl : l.length ≤ 1048576) : Calls Try.prog 7 #[.slice A l.length c] w fun e w' => e = .returned (.bool (tyM l)) ∧ Below w.heap.size w w' := by
  have HR := Aside0.mk hr
  have cs := fun W (B : Below w.heap.size w W) => shapeOf_i A c l W (Kd.C_below HR.out B) hl
  clear hr
  go_enter Try.func7, Try.ntmps7
  go_wp2_with (first | (go_at_call 13; (with_reducible refine (cs _ (by with_reducible repeat first | exact Below.refl _ _ | refine below_alloc ?_ _ | refine below_drew1 ?_ | refine pw_below_drewN ?_ _)).mono ?_); rintro e w1 ⟨p, rfl, hb1⟩))
  refine bodyPost_ret (v := .bool (tyM l)) (by simp [results, Try.results7, go_sem]) rfl ⟨rfl, ?_⟩
  with_reducible repeat first | exact Below.refl _ _ | refine below_alloc ?_ _ | refine below_drew1 ?_ | refine pw_below_drewN ?_ _ | refine below_step ?_ hb1
set_option maxRecDepth 100000 in
set_option maxHeartbeats 40000000 in
theorem law_GoodType (A : Option Addr) (c : Nat) (l : List S37) (w : World) (hr : Kd.C k37 w A l.length l) (hc : l.length ≤ c) (hl0 : l.length ≤ 9223372036854775807) : Calls Try.prog 3 #[.slice A l.length c] w fun e w' => e = .returned (.bool true) ∧ Below w.heap.size w w' := by
  have HR := Aside0.mk hr
  obtain ⟨q, hq⟩ : ∃ q, q = if 1048576 < l.length then (-1 : Int) else 1048576 - l.length := ⟨_, rfl⟩
  have hz : laws_szTypeNodeS.f l 1048576 = some q := by
    unfold laws_szTypeNodeS.f
    rw [hq, Pl.w64 (by omega) (by omega)]
    by_cases h : 1048576 < l.length
    · rw [if_pos h, if_pos (by omega)]
    · rw [if_neg h, if_neg (by omega)]
  have cz : ∀ W, Below w.heap.size w W → Calls Try.prog 4 #[.slice A l.length c, .int .i64 1048576] W fun e w' => e = .returned (.int .i64 q) ∧ Below W.heap.size W w' := fun W B => (laws_szTypeNodeS.calls A c l 1048576 q W (Kd.C_below HR.out B) hc hz).mono (fun e w' h => ⟨h.1, h.2.below⟩)
  by_cases z : 1048576 < l.length
  · rw [if_pos z] at hq
    have hd : decide (q < 0) = true := decide_eq_true (by omega)
    clear hr hl0 hc hq z hz
    go_enter Try.func3, Try.ntmps3
    go_wp2_with (first
      | (go_at_call 4; (fail_if_success (have _ := hb1)); (with_reducible refine (cz _ (by repeat (first | (with_reducible exact Below.refl _ _) | (with_reducible refine below_alloc ?_ _) | (with_reducible refine below_drew1 ?_) | (with_reducible refine pw_below_drewN ?_ _) | (with_reducible refine below_set ?_ (by omega))))).mono ?_); rintro e w1 ⟨rfl, hb1⟩; obtain ⟨hc1, hf1⟩ := bcell hb1))
    refine bodyPost_ret (v := .bool true) (by simp [results, Try.results3, go_sem, hc1, hf1]) rfl ⟨rfl, ?_⟩
    repeat (first | (with_reducible exact Below.refl _ _) | (with_reducible refine below_alloc ?_ _) | (with_reducible refine below_drew1 ?_) | (with_reducible refine pw_below_drewN ?_ _) | (with_reducible refine below_set ?_ (by omega)) | (with_reducible refine below_step ?_ hb1))
  · rw [if_neg z] at hq
    have hd : decide (q < 0) = false := decide_eq_false (by omega)
    have hL : (l.map cv).length = l.length := List.length_map _
    obtain ⟨kt, ht⟩ := (toS_told l (by omega)).rounds
    obtain ⟨kq, hsp⟩ := (spec_told (l.map cv)).rounds
    obtain ⟨ke, he⟩ := (eqS_told (l.map cv) (by omega)).rounds
    have ct := fun W (B : Below w.heap.size w W) => laws_toTypeNodeS.calls kt A c l _ W (Kd.C_below HR.out B) hc ht
    have cs := fun A' c' W R h => spec_GoodType.calls kq A' c' (l.map cv) _ W R h hsp
    have ci := fun A' c' W R => gt_i A' c' (l.map cv) W R (by omega)
    have ce := fun A' c' B' d' W R h R' h' => laws_eqTypeNodeS.calls ke A' c' (l.map cv) B' d' (l.map cv) _ W R h R' h' he
    clear hr hl0 hc hq z hz ht hsp he hL
    generalize tyM (l.map cv) = rb at *
    generalize l.map cv = L at *
    go_enter Try.func3, Try.ntmps3
    go_wp2_with (first
      | (go_at_call 8; (fail_if_success (have _ := hb7)); have _ := hb6; (with_reducible refine (ce A4 c4 A6 c6 _ (Kd.C_below R4.out.2.2 (by repeat (first | (with_reducible exact Below.refl _ _) | (with_reducible refine below_alloc ?_ _) | (with_reducible refine below_drew1 ?_) | (with_reducible refine pw_below_drewN ?_ _) | (with_reducible refine below_set ?_ (by omega)) | (with_reducible refine below_step ?_ hb6) | (with_reducible refine below_step ?_ hb5)))) R4.out.2.1 (Kd.C_below R6.out.2.2 (by repeat (first | (with_reducible exact Below.refl _ _) | (with_reducible refine below_alloc ?_ _) | (with_reducible refine below_drew1 ?_) | (with_reducible refine pw_below_drewN ?_ _) | (with_reducible refine below_set ?_ (by omega))))) R6.out.2.1).mono ?_); rintro e w7 ⟨rfl, hb7⟩; have hbq7 : Below w6.heap.size w6 w7 := below_step (by repeat (first | (with_reducible exact Below.refl _ _) | (with_reducible refine below_alloc ?_ _) | (with_reducible refine below_drew1 ?_))) hb7; have hc7 : ∀ b o, b < w6.heap.size → w7.cell? ⟨b, o, none⟩ = w6.cell? ⟨b, o, none⟩ := (bcell hbq7).1; have hf7 : ∀ b o, b < w6.heap.size → w7.frozen? ⟨b, o, none⟩ = w6.frozen? ⟨b, o, none⟩ := (bcell hbq7).2)
      | (go_at_call 6; (fail_if_success (have _ := hb6)); have _ := hb5; (with_reducible refine (ct _ (by repeat (first | (with_reducible exact Below.refl _ _) | (with_reducible refine below_alloc ?_ _) | (with_reducible refine below_drew1 ?_) | (with_reducible refine pw_below_drewN ?_ _) | (with_reducible refine below_set ?_ (by omega)) | (with_reducible refine below_step ?_ hb5) | (with_reducible refine below_step ?_ hb4) | (with_reducible refine below_step ?_ hb3) | (with_reducible refine below_step ?_ hb2) | (with_reducible refine below_step ?_ hb1)))).mono ?_); rintro e w6 ⟨v6, rfl, R6, hb6⟩; have hbq6 : Below w5.heap.size w5 w6 := below_step (by repeat (first | (with_reducible exact Below.refl _ _) | (with_reducible refine below_alloc ?_ _) | (with_reducible refine below_drew1 ?_))) hb6; have hc6 : ∀ b o, b < w5.heap.size → w6.cell? ⟨b, o, none⟩ = w5.cell? ⟨b, o, none⟩ := (bcell hbq6).1; have hf6 : ∀ b o, b < w5.heap.size → w6.frozen? ⟨b, o, none⟩ = w5.frozen? ⟨b, o, none⟩ := (bcell hbq6).2; obtain ⟨A6, c6, rfl⟩ := Kd.R_slice R6; replace R6 := Aside0.mk (Kd.R_reads' R6))
      | (go_at_call 7; (fail_if_success (have _ := hb5)); have _ := hb4; (with_reducible refine (ci A4 c4 _ (Kd.C_below R4.out.2.2 (by repeat (first | (with_reducible exact Below.refl _ _) | (with_reducible refine below_alloc ?_ _) | (with_reducible refine below_drew1 ?_) | (with_reducible refine pw_below_drewN ?_ _) | (with_reducible refine below_set ?_ (by omega)))))).mono ?_); rintro e w5 ⟨rfl, hb5⟩; obtain ⟨hc5, hf5⟩ := bcell hb5)
      | (go_at_call 6; (fail_if_success (have _ := hb4)); have _ := hb3; (with_reducible refine (ct _ (by repeat (first | (with_reducible exact Below.refl _ _) | (with_reducible refine below_alloc ?_ _) | (with_reducible refine below_drew1 ?_) | (with_reducible refine pw_below_drewN ?_ _) | (with_reducible refine below_set ?_ (by omega)) | (with_reducible refine below_step ?_ hb3) | (with_reducible refine below_step ?_ hb2) | (with_reducible refine below_step ?_ hb1)))).mono ?_); rintro e w4 ⟨v4, rfl, R4, hb4⟩; obtain ⟨hc4, hf4⟩ := bcell hb4; obtain ⟨A4, c4, rfl⟩ := Kd.R_slice R4; replace R4 := Aside0.mk (Kd.R_reads' R4))
      | (go_at_call 5; (fail_if_success (have _ := hb3)); have _ := hb2; (with_reducible refine (cs A2 c2 _ (Kd.C_below R2.out.2.2 (by repeat (first | (with_reducible exact Below.refl _ _) | (with_reducible refine below_alloc ?_ _) | (with_reducible refine below_drew1 ?_) | (with_reducible refine pw_below_drewN ?_ _) | (with_reducible refine below_set ?_ (by omega))))) R2.out.2.1).mono ?_); rintro e w3 ⟨rfl, hb3⟩; obtain ⟨hc3, hf3⟩ := bcell hb3)
      | (go_at_call 6; (fail_if_success (have _ := hb2)); have _ := hb1; (with_reducible refine (ct _ (by repeat (first | (with_reducible exact Below.refl _ _) | (with_reducible refine below_alloc ?_ _) | (with_reducible refine below_drew1 ?_) | (with_reducible refine pw_below_drewN ?_ _) | (with_reducible refine below_set ?_ (by omega)) | (with_reducible refine below_step ?_ hb1)))).mono ?_); rintro e w2 ⟨v2, rfl, R2, hb2⟩; obtain ⟨hc2, hf2⟩ := bcell hb2; obtain ⟨A2, c2, rfl⟩ := Kd.R_slice R2; replace R2 := Aside0.mk (Kd.R_reads' R2))
      | (go_at_call 4; (fail_if_success (have _ := hb1)); (with_reducible refine (cz _ (by repeat (first | (with_reducible exact Below.refl _ _) | (with_reducible refine below_alloc ?_ _) | (with_reducible refine below_drew1 ?_) | (with_reducible refine pw_below_drewN ?_ _) | (with_reducible refine below_set ?_ (by omega))))).mono ?_); rintro e w1 ⟨rfl, hb1⟩; obtain ⟨hc1, hf1⟩ := bcell hb1))
    all_goals
      refine bodyPost_ret (v := .bool true) (by simp [results, Try.results3, go_sem, hc1, hf1, hc2, hf2, hc3, hf3, hc4, hf4, hc5, hf5, hc6, hf6, hc7, hf7]) rfl ⟨rfl, ?_⟩
      repeat (first | (with_reducible exact Below.refl _ _) | (with_reducible refine below_alloc ?_ _) | (with_reducible refine below_drew1 ?_) | (with_reducible refine pw_below_drewN ?_ _) | (with_reducible refine below_set ?_ (by omega)) | (with_reducible refine below_step ?_ hb7) | (with_reducible refine below_step ?_ hb6) | (with_reducible refine below_step ?_ hb5) | (with_reducible refine below_step ?_ hb4) | (with_reducible refine below_step ?_ hb3) | (with_reducible refine below_step ?_ hb2) | (with_reducible refine below_step ?_ hb1))
end Go.Proofs.Ytchjmkofdiejhaa.OwnTyL
