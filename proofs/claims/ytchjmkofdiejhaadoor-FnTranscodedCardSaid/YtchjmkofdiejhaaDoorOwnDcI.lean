/- Texts read point by point, on both sides: walks of our own. -/
import Derived.Test.YtchjmkofdiejhaaDoorOwnIs
import Derived.Test.YtchjmkofdiejhaaDoorOwnDcQ
import Derived.Test.YtchjmkofdiejhaaDoorShelf
namespace Go.Proofs.YtchjmkofdiejhaaDoor.OwnDcI
open Go Go.RowKit Go.Proofs.YtchjmkofdiejhaaDoorW.PrintWords Go.Proofs.YtchjmkofdiejhaaDoorW.PrintLast Go.Proofs.YtchjmkofdiejhaaDoorW.PrintMore Go.Proofs.YtchjmkofdiejhaaDoor.OwnIs Go.Proofs.YtchjmkofdiejhaaDoor.OwnDcP Go.Proofs.YtchjmkofdiejhaaDoor.OwnDcQ
set_option linter.unusedVariables false
set_option linter.unusedSimpArgs false
theorem go_le (n b0 b1 b2 b3 : Nat) (h0 : b0 < 256) : (Lib.decodeN n b0 b1 b2 b3).1 ≤ 1114111 ∧ (Lib.decodeN n b0 b1 b2 b3).2 ≤ 4 := by
  unfold Lib.decodeN
  repeat' split
  all_goals simp only
  all_goals omega
theorem go_le' (s : ByteArray) : (Lib.decodeGo s).1 ≤ 1114111 ∧ (Lib.decodeGo s).2 ≤ 4 := by
  unfold Lib.decodeGo
  split
  · simp
  · rw [Lib.decode_at]
    exact go_le _ _ _ _ _ (get_bt s 0).2
abbrev Tabs (w : World) : Prop := Lib.Utf8Tabs 0 1 w
theorem take16_i (s : ByteArray) (w : World) : Calls Tryd.prog 41 #[.string s] w fun e w' => e = .returned (.tuple #[.int .i64 (t16 s).1, .int .i64 (t16 s).2]) ∧ Below w.heap.size w w' := by
  obtain ⟨k, hk⟩ := (t16_told s).rounds
  exact (Ptake16.impl_take16.calls k s (t16 s).1 (t16 s).2 w hk).mono fun e w' h => ⟨h.1, h.2.below⟩
set_option maxRecDepth 100000 in
set_option maxHeartbeats 4000000 in
theorem take_i (code : Int) (hc : 1 ≤ code ∧ code ≤ 3) (s : ByteArray) (h : 0 < s.size) (hs : s.size ≤ 1048576) (w : World) (hT : Tabs w) : Calls Tryd.prog 27 #[.string s, .int .i64 code] w fun e w' => e = .returned (.tuple #[.int .i64 (im code s).1, .int .i64 (im code s).2]) ∧ Below w.heap.size w w' := by
  obtain rfl | rfl | rfl : code = 1 ∨ code = 2 ∨ code = 3 := by omega
  · have cd := fun W (B : Below w.heap.size w W) => Tryd.utf8_DecodeRuneInString s W (Utf8Tabs_below hT B)
    have hb := go_le' s
    have e : im 1 s = goM s := rfl
    rw [e]
    unfold goM
    generalize (Lib.decodeGo s).1 = r at *
    generalize (Lib.decodeGo s).2 = k at *
    obtain ⟨hb1, hb2⟩ := hb
    clear hT e
    by_cases c1 : r = 65533
    · subst c1
      by_cases c2 : (k : Int) ≤ 1
      · have d2 : decide ((k : Int) ≤ 1) = true := decide_eq_true c2
        have d3 : decide (k ≤ 1) = true := decide_eq_true (by omega)
        rw [if_pos ⟨rfl, c2⟩]
        go_enter Tryd.func27, Tryd.ntmps27
        go_wp2_with (go_at_call 40; (with_reducible refine (cd _ (Below.refl _ _)).mono ?_); rintro e w1 ⟨rfl, hb1⟩)
        go_ret2
        exact ⟨rfl, hb1⟩
      · have d2 : decide ((k : Int) ≤ 1) = false := decide_eq_false c2
        have d3 : decide (k ≤ 1) = false := decide_eq_false (by omega)
        rw [if_neg (fun h => c2 h.2)]
        go_enter Tryd.func27, Tryd.ntmps27
        go_wp2_with (go_at_call 40; (with_reducible refine (cd _ (Below.refl _ _)).mono ?_); rintro e w1 ⟨rfl, hb1⟩)
        go_ret2
        exact ⟨rfl, hb1⟩
    · have d1 : ((r : Int) == 65533) = false := beq_eq_false_iff_ne.2 (by omega)
      have d1' : (r == 65533) = false := beq_eq_false_iff_ne.2 c1
      rw [if_neg (fun h => c1 (by have := h.1; omega))]
      go_enter Tryd.func27, Tryd.ntmps27
      go_wp2_with (go_at_call 40; (with_reducible refine (cd _ (Below.refl _ _)).mono ?_); rintro e w1 ⟨rfl, hb1⟩)
      go_ret2
      exact ⟨rfl, hb1⟩
  · have cd := fun W => take16_i s W
    have e : im 2 s = t16 s := rfl
    rw [e]
    clear hT e
    generalize t16 s = r at *
    obtain ⟨r1, r2⟩ := r
    go_enter Tryd.func27, Tryd.ntmps27
    go_wp2_with (go_at_call 41; (with_reducible refine (cd _).mono ?_); rintro e w1 ⟨rfl, hb1⟩)
    go_ret2
    exact ⟨rfl, hb1⟩
  · have hx := bt_at s 0 (by simpa using h)
    have e : im 3 s = (bt s 0, 1) := rfl
    rw [e]
    have hr := bt_range s 0
    have HX := Aside0.mk hx
    clear hT e hx
    go_enter Tryd.func27, Tryd.ntmps27
    go_wp2
    go_ret2
    refine ⟨?_, Below.refl _ _⟩
    show Ending.returned (.tuple #[.int .i64 (wrap64 ((s[0]'h).toNat : Int)), .int .i64 1]) = _
    rw [show ((s[0]'h).toNat : Int) = bt s 0 from HX.out, Pl.w64 (by omega) (by omega)]
set_option maxRecDepth 100000 in
set_option maxHeartbeats 8000000 in
theorem dec_i (code : Int) (hc : 1 ≤ code ∧ code ≤ 3) (s : ByteArray) (hs : s.size ≤ 1048576) (w : World) (hT : Tabs w) : Calls Tryd.prog 8 #[.string s, .int .i64 code] w (EoPost w (decM code s)) := by
  have HT := Aside0.mk hT
  generalize hR : decM code s = R
  have HD : Aside0 (decI code (s.size + 1) s [] = R) := ⟨hR⟩
  clear hT hR
  have d1 : decide (code < 1) = false := decide_eq_false (by omega)
  have d2 : decide (3 < code) = false := decide_eq_false (by omega)
  have H0 := Aside0.mk (Is.start (Below.refl w.heap.size w))
  go_enter Tryd.func8, Tryd.ntmps8
  go_wp2
  clear d1 d2
  go_loopg [0, 6] s.size (fun kq v0 v6 w' => ∃ (t : ByteArray) (acc : List Int) (f : Nat), v0 = .string t ∧ t.size = kq ∧ t.size ≤ 1048576 ∧ acc.length ≤ 300 ∧ Aside0 (Is w w' v6 acc) ∧ Aside0 (t.size < f) ∧ Aside0 (decI code f t acc = R))
  case atStart => exact ⟨s, [], s.size + 1, rfl, rfl, hs, Nat.zero_le _, H0, ⟨Nat.lt_succ_self _⟩, HD⟩
  case round =>
    clear H0 HD hs
    obtain ⟨t, acc, f, rfl, ht, hts, ha, HI, HF, HD⟩ := hrel
    obtain ⟨f, rfl⟩ : ∃ f', f = f' + 1 := ⟨f - 1, by have := HF.out; omega⟩
    obtain ⟨A6, c6, e6⟩ := HI.out.form
    subst e6
    have HT2 : Aside0 (Tabs wr) := ⟨Utf8Tabs_below HT.out (Below.mono HI.out.bel (Nat.le_refl _))⟩
    by_cases z : t.size = 0
    · have hnil := (Pl.toList_nil t).2 z
      have hemp : t.toList.isEmpty = true := by rw [hnil]; rfl
      have hR2 : Aside0 (R = (acc, true)) := ⟨by rw [← HD.out]; unfold decI; rw [if_pos z]⟩
      clear z ht HF HD HT2
      go_wp2
      go_ret2
      refine ⟨A6, c6, ?_, ?_, HI.out.bel⟩
      · rw [hR2.out]; rfl
      · rw [hR2.out]; exact HI.out.row
    · have hne : t.toList ≠ [] := fun h => z ((Pl.toList_nil t).1 h)
      have hemp : t.toList.isEmpty = false := by simp [hne]
      have hz : 0 < t.size := by omega
      have hle := im_le code t hz
      have ci := fun W (B : Below wr.heap.size wr W) => take_i code hc t hz hts W (Utf8Tabs_below HT2.out B)
      have HS : Aside0 (decI code (f + 1) t acc = if (im code t).2 = 0 ∨ acc.length = 300 then ([], false) else decI code f (t.extract (im code t).2.toNat t.size) (acc ++ [(im code t).1])) := ⟨by show decI code (f + 1) t acc = _; rw [decI, if_neg z]⟩
      generalize im code t = pn at *
      obtain ⟨p, n⟩ := pn
      simp only at hle ci HS
      obtain ⟨n0, n1, _⟩ := hle
      by_cases c0 : n = 0
      · subst c0
        have hR2 : Aside0 (R = ([], false)) := ⟨by rw [← HD.out, HS.out, if_pos (.inl rfl)]⟩
        clear HD HS HF hne
        go_wp2_with (go_at_call 27; (with_reducible refine (ci _ (Below.refl _ _)).mono ?_); rintro e w2 ⟨rfl, hb2⟩)
        go_ret2
        refine ⟨none, 0, ?_, ?_, below_step HI.out.bel hb2⟩
        · rw [hR2.out]; rfl
        · rw [hR2.out]; exact Kd.R_nil _ _ _ _ _
      · have d0 : (n == 0) = false := beq_eq_false_iff_ne.2 c0
        by_cases c3 : acc.length = 300
        · have d3 : ((acc.length : Int) == 300) = true := beq_iff_eq.2 (by omega)
          have d3' : (acc.length == 300) = true := beq_iff_eq.2 c3
          have hR2 : Aside0 (R = ([], false)) := ⟨by rw [← HD.out, HS.out, if_pos (.inr c3)]⟩
          clear HD HS HF hne
          go_wp2_with (go_at_call 27; (with_reducible refine (ci _ (Below.refl _ _)).mono ?_); rintro e w2 ⟨rfl, hb2⟩)
          go_ret2
          refine ⟨none, 0, ?_, ?_, below_step HI.out.bel hb2⟩
          · rw [hR2.out]; rfl
          · rw [hR2.out]; exact Kd.R_nil _ _ _ _ _
        · have d3 : ((acc.length : Int) == 300) = false := beq_eq_false_iff_ne.2 (by omega)
          have d3' : (acc.length == 300) = false := beq_eq_false_iff_ne.2 c3
          have HD2 : Aside0 (decI code f (t.extract n.toNat t.size) (acc ++ [p]) = R) := ⟨by rw [← HD.out, HS.out, if_neg (by omega)]⟩
          have HTS := Aside0.mk ht
          clear HD HS hne ht
          obtain ⟨m, rfl⟩ : ∃ m : Nat, n = m := ⟨n.toNat, by omega⟩
          rw [Int.toNat_natCast] at HD2
          have m1 : m ≤ t.size := by omega
          have m0 : 0 < m := by omega
          have hl1 : acc.length ≤ 100000 := by omega
          go_wp2_with (first
            | (go_at_call 27; (with_reducible refine (ci _ (Below.refl _ _)).mono ?_); rintro e w2 ⟨rfl, hb2⟩; have H2 := Aside0.mk (HI.out.below hb2))
            | (at_builtin; refine Is.app H2.out p hl1 rfl _ _ rfl rfl _ rfl rfl ?_; intro v3 w3 H3; replace H3 := Aside0.mk H3))
          go_roundg (t.size - m)
          case measure => have := HTS.out; omega
          case rel => exact ⟨t.extract m t.size, acc ++ [p], f, rfl, by rw [ByteArray.size_extract]; omega, by rw [ByteArray.size_extract]; omega, by rw [List.length_append]; simp; omega, H3, ⟨by rw [ByteArray.size_extract]; have := HF.out; omega⟩, HD2⟩
/-- What the reference's own reading tells. -/
theorem dec2_s (code : Int) (hc : 1 ≤ code ∧ code ≤ 3) (s : ByteArray) (w : World) : ∃ r1 : List Int, r1.length ≤ 300 ∧ ((decM code s).2 = true → r1 = (decM code s).1) ∧ Calls Tryd.prog 44 #[.string s, .int .i64 code] w (EoPost w (r1, (decM code s).2)) := by
  obtain ⟨r1, e1, e2, e3⟩ := dec_told code hc s
  obtain ⟨k, hk⟩ := e1.rounds
  refine ⟨r1, e2, e3, (Pl2Decode.spec_l2Decode.calls k s code r1 (decM code s).2 w hk).mono ?_⟩
  rintro e w' ⟨v, rfl, hR, hb⟩
  obtain ⟨A, c, rfl⟩ := Kd.R_slice hR
  exact ⟨A, c, rfl, hR, hb⟩
end Go.Proofs.YtchjmkofdiejhaaDoor.OwnDcI
