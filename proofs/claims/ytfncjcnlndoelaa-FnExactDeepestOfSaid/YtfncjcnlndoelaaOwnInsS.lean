/- The statements' own copies, sizes and comparisons of code: by printed walks. -/
import Derived.Test.YtfncjcnlndoelaaOwnKp
import Derived.Test.YtfncjcnlndoelaaPtoInsSx1
import Derived.Test.YtfncjcnlndoelaaPeqInsSx1
import Derived.Test.YtfncjcnlndoelaaPszInsSx1
namespace Go.Proofs.Ytfncjcnlndoelaa.OwnInsS
open Go Go.RowKit Go.Proofs.YtfncjcnlndoelaaW.PrintWords Go.Proofs.YtfncjcnlndoelaaW.PrintLast Go.Proofs.YtfncjcnlndoelaaW.PrintMore Go.Proofs.Ytfncjcnlndoelaa.OwnBs Go.Proofs.Ytfncjcnlndoelaa.OwnKp
set_option linter.unusedVariables false
set_option linter.unusedSimpArgs false
def mkA (p : Int × Int) : PtoInsS.S88 := ⟨p.1, p.2⟩
def mkB (p : Int × Int) : PtoInsS.S86 := ⟨p.1, p.2⟩
def mkE (p : Int × Int) : PeqInsS.S86 := ⟨p.1, p.2⟩
def mkZ (p : Int × Int) : PszInsS.S88 := ⟨p.1, p.2⟩
theorem rdA (l : List (Int × Int)) (i : Nat) (h : i < l.length) : PtoInsS.rd_T88 (l.map mkA) (i : Int) = mkA l[i] := by
  unfold PtoInsS.rd_T88
  simp [List.getD_eq_getElem?_getD, List.getElem?_eq_getElem h]
theorem rdE (l : List (Int × Int)) (i : Nat) (h : i < l.length) : PeqInsS.rd_T86 (l.map mkE) (i : Int) = mkE l[i] := by
  unfold PeqInsS.rd_T86
  simp [List.getD_eq_getElem?_getD, List.getElem?_eq_getElem h]
theorem toInsS_told (l : List (Int × Int)) (hl : l.length ≤ 1048576) : Ev (fun k => PtoInsS.laws_toInsS.f k (l.map mkA)) (l.map mkB) := by
  have hm : (l.map mkA).length = l.length := List.length_map ..
  have hb : (l.map mkB).length = l.length := List.length_map ..
  have key : ∀ (m i : Nat), i + m = l.length → Ev (fun k => PtoInsS.laws_toInsS.l0 k (l.map mkA) ((l.map mkB).take i ++ List.replicate ((l.map mkB).length - i) PtoInsS.z86) (i : Int)) (l.map mkB) := by
    intro m
    induction m with
    | zero =>
      intro i hi
      refine Pl.ev_const 1 fun k => ?_
      simp only [PtoInsS.laws_toInsS.l0]
      rw [if_neg (by omega), show i = (l.map mkB).length by omega, Nat.sub_self, List.take_length]
      simp
    | succ m ih =>
      intro i hi
      refine Pl.ev_skip 1 (fun k => ?_) (ih (i + 1) (by omega))
      show PtoInsS.laws_toInsS.l0 (k + 1) _ _ (i : Int) = _
      simp only [PtoInsS.laws_toInsS.l0]
      rw [if_pos (by omega), if_pos (by omega), rdA l i (by omega)]
      show (if _ then _ else _) = _
      rw [if_pos (by rw [Pl.set_step_len _ _ i (by omega)]; omega), Pl.w64s i l.length (by omega) (by omega), Int.toNat_natCast]
      have := Pl.set_step (l.map mkB) PtoInsS.z86 (mkB l[i]) i (by omega)
      rw [← this]
      congr 2
      simp [List.getD_eq_getElem?_getD, List.getElem?_eq_getElem (show i < l.length by omega)]
      rfl
  unfold PtoInsS.laws_toInsS.f
  rw [hm]
  simp only [if_pos (show 0 ≤ (l.length : Int) by omega), Int.toNat_natCast, if_pos (show l.length ≤ 17592186044416 by omega)]
  have := key l.length 0 (by omega)
  rw [hb] at this
  simpa using this
theorem eqInsS_refl (l : List (Int × Int)) (hl : l.length ≤ 1048576) : Ev (fun k => PeqInsS.laws_eqInsS.f k (l.map mkE) (l.map mkE)) true := by
  have hm : (l.map mkE).length = l.length := List.length_map ..
  have key : ∀ (m i : Nat), i + m = l.length → Ev (fun k => PeqInsS.laws_eqInsS.l0 k (l.map mkE) (l.map mkE) (i : Int)) true := by
    intro m
    induction m with
    | zero =>
      intro i hi
      refine Pl.ev_const 1 fun k => ?_
      simp only [PeqInsS.laws_eqInsS.l0]
      rw [if_neg (by omega)]
    | succ m ih =>
      intro i hi
      refine Pl.ev_skip 1 (fun k => ?_) (ih (i + 1) (by omega))
      show PeqInsS.laws_eqInsS.l0 (k + 1) _ _ (i : Int) = _
      simp only [PeqInsS.laws_eqInsS.l0]
      rw [if_pos (by omega), if_pos (by omega), if_pos (by omega), Pl.w64s i l.length (by omega) (by omega)]
      unfold PeqInsS.laws_eqIns.f
      rw [if_pos rfl, if_pos rfl]
      rfl
  unfold PeqInsS.laws_eqInsS.f
  simp only [eq_self, if_true]
  exact key l.length 0 (by omega)
theorem toIns (A : Option Addr) (c : Nat) (l : List (Int × Int)) (w : World) (hr : Kd.C kI w A l.length l) (hc : l.length ≤ c) (hl : l.length ≤ 1048576) : Calls Try.prog 23 #[.slice A l.length c] w fun e w' => ∃ A' c', e = .returned (.slice A' l.length c') ∧ l.length ≤ c' ∧ Kd.C kI w' A' l.length l ∧ Below w.heap.size w w' := by
  obtain ⟨k, hk⟩ := (toInsS_told l hl).rounds
  have h1 : Kd.C PtoInsS.k88 w A (l.map mkA).length (l.map mkA) := by rw [List.length_map]; exact C_ofmap (fun _ => rfl) hr
  have := PtoInsS.laws_toInsS.calls k A c (l.map mkA) _ w h1 (by rw [List.length_map]; exact hc) hk
  rw [List.length_map] at this
  refine this.mono ?_
  rintro e w' ⟨v, rfl, hR, hb⟩
  obtain ⟨A', c', rfl⟩ := Kd.R_slice hR
  obtain ⟨_, h2, h3⟩ := Kd.R_reads' hR
  rw [List.length_map] at h2 h3 ⊢
  have h4 := C_tomap h3
  rw [List.map_map] at h4
  rw [show ((fun x : PtoInsS.S86 => (x.f0, x.f1)) ∘ mkB) = id from rfl, List.map_id] at h4
  exact ⟨A', c', rfl, h2, h4, hb⟩
theorem eqIns (A : Option Addr) (c : Nat) (A' : Option Addr) (c' : Nat) (l : List (Int × Int)) (w : World) (hr : Kd.C kI w A l.length l) (hc : l.length ≤ c) (hr' : Kd.C kI w A' l.length l) (hc' : l.length ≤ c') (hl : l.length ≤ 1048576) : Calls Try.prog 25 #[.slice A l.length c, .slice A' l.length c'] w fun e w' => e = .returned (.bool true) ∧ Below w.heap.size w w' := by
  obtain ⟨k, hk⟩ := (eqInsS_refl l hl).rounds
  have h1 : Kd.C PeqInsS.k86 w A (l.map mkE).length (l.map mkE) := by rw [List.length_map]; exact C_ofmap (fun _ => rfl) hr
  have h2 : Kd.C PeqInsS.k86 w A' (l.map mkE).length (l.map mkE) := by rw [List.length_map]; exact C_ofmap (fun _ => rfl) hr'
  have := PeqInsS.laws_eqInsS.calls k A c (l.map mkE) A' c' (l.map mkE) true w h1 (by rw [List.length_map]; exact hc) h2 (by rw [List.length_map]; exact hc') hk
  rwa [List.length_map] at this
/-- What is left of a budget. -/
def leftM (n a : Int) : Int := if wrap64 (a - n) < 0 then -1 else wrap64 (a - n)
theorem szIns (A : Option Addr) (c : Nat) (l : List (Int × Int)) (a : Int) (w : World) (hr : Kd.C kI w A l.length l) (hc : l.length ≤ c) : Calls Try.prog 21 #[.slice A l.length c, .int .i64 a] w fun e w' => e = .returned (.int .i64 (leftM l.length a)) ∧ ∃ n, w' = w.drewN n := by
  have h1 : Kd.C PszInsS.k88 w A (l.map mkZ).length (l.map mkZ) := by rw [List.length_map]; exact C_ofmap (fun _ => rfl) hr
  have := PszInsS.laws_szInsS.calls A c (l.map mkZ) a (leftM l.length a) w h1 (by rw [List.length_map]; exact hc) (by unfold PszInsS.laws_szInsS.f leftM; rw [List.length_map]; split <;> rfl)
  rw [List.length_map] at this
  exact this.mono fun e w' h => ⟨h.1, h.2.out⟩
end Go.Proofs.Ytfncjcnlndoelaa.OwnInsS
