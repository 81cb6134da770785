/- Marks: rows of numbers overwritten, and read again: walks of our own. -/
import Derived.Test.YtfncjcnlndoelaaDoorOwnIs
import Derived.Lib.Builder
import Derived.Test.YtfncjcnlndoelaaDoorPheldIntSx1
import Derived.Test.YtfncjcnlndoelaaDoorPeqIntSx1
namespace Go.Proofs.YtfncjcnlndoelaaDoor.OwnMk
open Go Go.RowKit Go.Proofs.YtfncjcnlndoelaaDoorW.PrintWords Go.Proofs.YtfncjcnlndoelaaDoorW.PrintLast Go.Proofs.YtfncjcnlndoelaaDoorW.PrintMore Go.Proofs.YtfncjcnlndoelaaDoor.OwnIs
set_option linter.unusedVariables false
set_option linter.unusedSimpArgs false
/-- 1, 2, 3 .. -/
def marks (n : Nat) : List Int := (List.range n).map fun (i : Nat) => (i : Int) + 1
theorem marks_len (n : Nat) : (marks n).length = n := by simp [marks]
theorem marks_succ (n : Nat) : marks (n + 1) = marks n ++ [(n : Int) + 1] := by simp [marks, List.range_succ]
theorem marks_set (l : List Int) (i : Nat) (h : i < l.length) : (marks i ++ l.drop i).set i ((i : Int) + 1) = marks (i + 1) ++ l.drop (i + 1) := by
  rw [List.set_append_right _ _ (by rw [marks_len]; exact Nat.le_refl _), marks_len, Nat.sub_self, List.drop_eq_getElem_cons h, List.set_cons_zero, marks_succ, List.append_assoc]
  rfl
/-- Only the row's own block has changed. -/
def Only (v : Value) (w w' : World) : Prop := (∀ k, v.ownBlock ≠ some k → w'.heap[k]? = w.heap[k]?) ∧ w'.heap.size = w.heap.size
set_option maxRecDepth 100000 in
set_option maxHeartbeats 4000000 in
theorem mark_ints (B : Nat) (v : Value) (l : List Int) (w : World) (hR : dI.R 3 w B (fun _ => True) v l) (hl : l.length ≤ 1000) : Calls Tryd.prog 11 #[v, .int .i64 1] w fun e w' => e = .returned (.int .i64 ((l.length : Int) + 1)) ∧ dI.R 3 w' B (fun _ => True) v (marks l.length) ∧ Only v w w' ∧ Below B w w' := by
  obtain ⟨A, c, rfl⟩ := Kd.R_slice hR
  have H0 : Aside0 (dI.R 3 w B (fun _ => True) (.slice A l.length c) (marks 0 ++ l.drop 0) ∧ Only (.slice A l.length c) w w ∧ Below B w w) := ⟨hR, ⟨fun _ _ => rfl, rfl⟩, Below.refl _ _⟩
  have HF : Aside0 (0 < l.length → ∃ g, A = some ⟨g, 0, none⟩ ∧ B ≤ g) := ⟨fun h => by
    obtain ⟨g, c', e, hg, _⟩ := Kd.R_form hR h
    injection e with e1
    exact ⟨g, e1, by first | exact hg | exact hg.1⟩⟩
  clear hR
  go_enter Tryd.func11, Tryd.ntmps11
  go_wp2
  go_loopg [1, 5] l.length (fun kq v1 v5 w' => ∃ i : Nat, i + kq = l.length ∧ v1 = .int .i64 ((i : Int) + 1) ∧ v5 = .int .i64 i ∧ Aside0 (dI.R 3 w' B (fun _ => True) (.slice A l.length c) (marks i ++ l.drop i) ∧ Only (.slice A l.length c) w w' ∧ Below B w w'))
  case atStart => exact ⟨0, by omega, rfl, rfl, H0⟩
  case round =>
    clear H0
    obtain ⟨i, hi, rfl, rfl, HQ⟩ := hrel
    cases gk with
    | zero =>
      obtain rfl : i = l.length := by omega
      have hd : decide ((l.length : Int) < (l.length : Int)) = false := decide_eq_false (by omega)
      obtain ⟨q1, q2, q3⟩ := HQ.out
      rw [List.drop_length, List.append_nil] at q1
      go_wp2
      go_ret
      exact ⟨rfl, q1, q2, q3⟩
    | succ k1 =>
      have hil : i < l.length := by omega
      have hd : decide ((i : Int) < (l.length : Int)) = true := decide_eq_true (by omega)
      obtain ⟨g, rfl, hg⟩ := HF.out (by omega)
      have hlen : (marks i ++ l.drop i).length = l.length := by rw [List.length_append, marks_len, List.length_drop]; omega
      have hc := Kd.R_celln (enc := Value.int .i64) (h1 := fun _ => rfl) 0 HQ.out.1 (i : Int) (by omega) (by omega)
      obtain ⟨hR2, hg2⟩ := Kd.R_putg (enc := Value.int .i64) (h1 := fun _ => rfl) HQ.out.1 (i : Int) ((i : Int) + 1)
      rw [Int.toNat_natCast] at hc hR2 hg2
      rw [marks_set l i hil] at hR2
      have HQ2 : Aside0 (dI.R 3 (wr.setCell ⟨g, i, none⟩ (.int .i64 ((i : Int) + 1))) B (fun _ => True) (.slice (some ⟨g, 0, none⟩) l.length c) (marks (i + 1) ++ l.drop (i + 1)) ∧ Only (.slice (some ⟨g, 0, none⟩) l.length c) w (wr.setCell ⟨g, i, none⟩ (.int .i64 ((i : Int) + 1))) ∧ Below B w (wr.setCell ⟨g, i, none⟩ (.int .i64 ((i : Int) + 1)))) := ⟨hR2, ⟨fun k hk => (Below.heap_setCell _ _ _ _ (fun e => hk (by rw [e]; rfl))).trans (HQ.out.2.1.1 k hk), by simpa [World.setCell] using HQ.out.2.1.2⟩, HQ.out.2.2.setCell (p := ⟨g, i, none⟩) hg _⟩
      obtain ⟨c1, c2⟩ := hc
      clear hR2 hg2 HQ HF
      have q1 : (0 : Int) ≤ (i : Int) := by omega
      have q2 : (i : Int) < (l.length : Int) := by omega
      have ew : IntKind.i64.wrap ((i : Int) + 1 + 1) = (i : Int) + 1 + 1 := by rw [IntKind.wrap_i64]; omega
      go_wp2
      go_roundg k1
      case measure => omega
      case rel => exact ⟨i + 1, by omega, by rw [Int.natCast_add]; rfl, by rw [Int.natCast_add]; rfl, HQ2⟩
/-- heldIntS over what was marked. -/
theorem held_told (l : List Int) (hl : l.length ≤ 1000) (hm : l = marks l.length) : Ev (fun k => PheldIntS.laws_heldIntS.f k l 1) ((l.length : Int) + 1) := by
  have key : ∀ (m i : Nat), i + m = l.length → Ev (fun k => PheldIntS.laws_heldIntS.l0 k l ((i : Int) + 1) (i : Int)) ((l.length : Int) + 1) := by
    intro m
    induction m with
    | zero =>
      intro i hi
      refine Pl.ev_const 1 fun k => ?_
      simp only [PheldIntS.laws_heldIntS.l0]
      rw [if_neg (by omega), show i = l.length by omega]
    | succ m ih =>
      intro i hi
      refine Pl.ev_skip 1 (fun k => ?_) (ih (i + 1) (by omega))
      have e1 : l[i] = (i : Int) + 1 := by
        have : l[i]? = some ((i : Int) + 1) := by
          rw [hm]
          have hi2 : i < l.length := by omega
          simp [marks, hi2]
        rw [List.getElem?_eq_getElem (by omega)] at this
        exact Option.some.inj this
      show PheldIntS.laws_heldIntS.l0 (k + 1) l _ (i : Int) = _
      simp only [PheldIntS.laws_heldIntS.l0]
      rw [if_pos (by omega), if_pos (by omega), Pl.rd_at l i (by omega), if_pos e1, Pl.w64s i l.length (by omega) (by omega), Pl.w64 (by omega) (by omega), Int.natCast_add]
      rfl
  exact key l.length 0 (by omega)
theorem held_ints (A : Option Addr) (c n : Nat) (w : World) (hr : Kd.C (Kd.int .i64) w A n (marks n)) (hc : n ≤ c) (hn : n ≤ 1000) : Calls Tryd.prog 12 #[.slice A n c, .int .i64 1] w fun e w' => e = .returned (.int .i64 ((n : Int) + 1)) ∧ Below w.heap.size w w' := by
  obtain ⟨k, hk⟩ := (held_told (marks n) (by rw [marks_len]; exact hn) (by rw [marks_len])).rounds
  have := PheldIntS.laws_heldIntS.calls k A c (marks n) 1 _ w (by rw [marks_len]; exact hr) (by rw [marks_len]; exact hc) hk
  rw [marks_len] at this
  exact this.mono fun e w' h => ⟨h.1, by first | exact h.2 | exact h.2.below⟩
section
open PeqIntS
theorem eqIntS_refl (l : List Int) (hl : l.length ≤ 35184372088832) : Ev (fun k => laws_eqIntS.f k l l) true := by
  have key : ∀ (m i : Nat), i + m = l.length → Ev (fun k => laws_eqIntS.l0 k l l (i : Int)) true := by
    intro m
    induction m with
    | zero =>
      intro i hi
      refine Pl.ev_const 1 fun k => ?_
      simp only [laws_eqIntS.l0]
      rw [if_neg (by omega)]
    | succ m ih =>
      intro i hi
      refine Pl.ev_skip 1 (fun k => ?_) (ih (i + 1) (by omega))
      show laws_eqIntS.l0 (k + 1) l l (i : Int) = _
      simp only [laws_eqIntS.l0]
      rw [if_pos (by omega), if_pos (by omega), if_pos (by omega), if_pos trivial, Pl.w64s i l.length (by omega) (by omega)]
  unfold laws_eqIntS.f
  simp only [eq_self, if_true]
  exact key l.length 0 (by omega)
end
theorem eqInts (A : Option Addr) (c : Nat) (A' : Option Addr) (c' : Nat) (l : List Int) (n : Nat) (hn : n = l.length) (w : World) (hr : Kd.C (Kd.int .i64) w A n l) (hc : n ≤ c) (hr' : Kd.C (Kd.int .i64) w A' n l) (hc' : n ≤ c') (hl : n ≤ 1000) : Calls Tryd.prog 10 #[.slice A n c, .slice A' n c'] w fun e w' => e = .returned (.bool true) ∧ Below w.heap.size w w' := by
  subst hn
  obtain ⟨k, hk⟩ := (eqIntS_refl l (by omega)).rounds
  exact (PeqIntS.laws_eqIntS.calls k A c l A' c' l true w hr hc hr' hc' hk).mono fun e w' h => ⟨h.1, by first | exact h.2 | exact h.2.below⟩
end Go.Proofs.YtfncjcnlndoelaaDoor.OwnMk
