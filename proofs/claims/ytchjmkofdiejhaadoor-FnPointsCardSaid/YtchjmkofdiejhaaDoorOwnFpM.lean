/- Points as compact bytes, and their size: the reference by printed walks, the program by walks of our own. CompactPoints: the law, by walks of our own. Texts come back from their codes: plain laws; no condition of its own. A cursor over bytes that draws: next, pick, one, among, point, code3: walks of our own; what they tell lies within bounds. A cursor that draws points: walks of our own; what they tell lies within bounds. Points come back from each of their codes: the law, by walks of our own. -/
import Derived.Test.YtchjmkofdiejhaaDoorOwnTextE
import Derived.Test.YtchjmkofdiejhaaDoorPCompactBytesx
import Derived.Test.YtchjmkofdiejhaaDoorOwnDcK
import Derived.Test.YtchjmkofdiejhaaDoorOwnIs
import Derived.Deep.RegionHeldLaw
import Derived.Deep.OwnRows
import Derived.Test.YtchjmkofdiejhaaDoorPl2Codex1
import Derived.Test.YtchjmkofdiejhaaDoorPsameIntsx1
namespace Go.Proofs.YtchjmkofdiejhaaDoor.OwnTextF
open Go Go.RowKit Go.Proofs.YtchjmkofdiejhaaDoorW.PrintWords Go.Proofs.YtchjmkofdiejhaaDoorW.PrintLast Go.Proofs.YtchjmkofdiejhaaDoorW.PrintMore Go.Proofs.YtchjmkofdiejhaaDoor.OwnBs Go.Proofs.YtchjmkofdiejhaaDoor.OwnText Go.Proofs.YtchjmkofdiejhaaDoor.OwnTextE
set_option linter.unusedVariables false
set_option linter.unusedSimpArgs false
section
open PCompactBytes
theorem l1In_told2 (a b c : Int) : spec_l1In.f a b c = some (decide (b ≤ a ∧ a ≤ c)) := by
  unfold spec_l1In.f
  by_cases h : b ≤ a <;> simp [h]
theorem points_spec2 (l : List Int) (hl : l.length ≤ 35184372088832) : Ev (fun k => spec_l2Points.f k l) (goodPts l) := by
  have key : ∀ (m i : Nat), i + m = l.length → Ev (fun k => spec_l2Points.l0 k l l (l.length : Int) (i : Int)) ((l.drop i).all goodB && decide (l.length ≤ 300)) := by
    intro m
    induction m with
    | zero =>
      intro i hi
      refine Pl.ev_const 1 fun k => ?_
      simp only [spec_l2Points.l0]
      rw [if_neg (by omega), List.drop_of_length_le (by omega)]
      simp
      omega
    | succ m ih =>
      intro i hi
      have hil : i < l.length := by omega
      have hn := ih (i + 1) (by omega)
      have step : ∀ k, spec_l2Points.l0 (k + 1) l l (l.length : Int) (i : Int) = if goodB l[i] = true then spec_l2Points.l0 k l l (l.length : Int) ((i + 1 : Nat) : Int) else some false := by
        intro k
        simp only [spec_l2Points.l0]
        rw [if_pos (by omega), if_pos (by omega), if_pos (by omega), Pl.rd_at l i hil, Pl.w64s i l.length (by omega) (by omega)]
        simp only [l1In_told2, Option.bind_some, decide_eq_true_eq]
        unfold goodB
        simp only [decide_eq_true_eq]
        by_cases h1 : 0 ≤ l[i] ∧ l[i] ≤ 1114111
        · by_cases h2 : 55296 ≤ l[i] ∧ l[i] ≤ 57343
          · rw [if_pos h1, if_pos h2, if_neg (by omega)]
          · rw [if_pos h1, if_neg h2, if_pos (by omega)]
        · rw [if_neg h1, if_neg (by omega)]
      by_cases hg : goodB l[i] = true
      · have e : (l.drop i).all goodB = (l.drop (i + 1)).all goodB := by
          rw [drop_all l i hil, hg, Bool.true_and]
        rw [e]
        exact Pl.ev_skip 1 (fun k => by rw [step, if_pos hg]) hn
      · have e : (l.drop i).all goodB = false := by
          rw [drop_all l i hil, Bool.eq_false_iff.2 hg, Bool.false_and]
        rw [e]
        exact Pl.ev_const 1 (fun k => by rw [step, if_neg hg]; rfl)
  have := key l.length 0 (by omega)
  unfold spec_l2Points.f goodPts
  simpa using this
theorem utf8_told2 (p : Int) (h0 : 0 ≤ p) (h1 : p ≤ 1114111) : spec_l2Utf8.f p = some (u8M p) := by
  have a1 : bits .and .i64 p 63 = p % 64 := Pl.and_mask .i64 6 (by decide) p
  have a2 : bits .and .i64 (p / 64) 63 = p / 64 % 64 := Pl.and_mask .i64 6 (by decide) _
  have a3 : bits .and .i64 (p / 4096) 63 = p / 4096 % 64 := Pl.and_mask .i64 6 (by decide) _
  unfold spec_l2Utf8.f u8M
  rw [a1, a2, a3]
  by_cases c1 : p < 128
  · rw [if_pos c1, if_pos c1, show p % 256 = p by omega]
  · rw [if_neg c1, if_neg c1]
    by_cases c2 : p < 2048
    · rw [if_pos c2, if_pos c2, or_hi 6 192 (p / 64) (by omega) (by decide) (by omega) (by omega) (by omega), or_hi 6 128 (p % 64) (by omega) (by decide) (by omega) (by omega) (by omega), show (192 + p / 64) % 256 = 192 + p / 64 by omega, show (128 + p % 64) % 256 = 128 + p % 64 by omega]
    · rw [if_neg c2, if_neg c2]
      by_cases c3 : p < 65536
      · rw [if_pos c3, if_pos c3, or_hi 5 224 (p / 4096) (by omega) (by decide) (by omega) (by omega) (by omega), or_hi 6 128 (p / 64 % 64) (by omega) (by decide) (by omega) (by omega) (by omega), or_hi 6 128 (p % 64) (by omega) (by decide) (by omega) (by omega) (by omega), show (224 + p / 4096) % 256 = 224 + p / 4096 by omega, show (128 + p / 64 % 64) % 256 = 128 + p / 64 % 64 by omega, show (128 + p % 64) % 256 = 128 + p % 64 by omega]
      · rw [if_neg c3, if_neg c3, or_hi 4 240 (p / 262144) (by omega) (by decide) (by omega) (by omega) (by omega), or_hi 6 128 (p / 4096 % 64) (by omega) (by decide) (by omega) (by omega) (by omega), or_hi 6 128 (p / 64 % 64) (by omega) (by decide) (by omega) (by omega) (by omega), or_hi 6 128 (p % 64) (by omega) (by decide) (by omega) (by omega) (by omega), show (240 + p / 262144) % 256 = 240 + p / 262144 by omega, show (128 + p / 4096 % 64) % 256 = 128 + p / 4096 % 64 by omega, show (128 + p / 64 % 64) % 256 = 128 + p / 64 % 64 by omega, show (128 + p % 64) % 256 = 128 + p % 64 by omega]
theorem utf16_told2 (p : Int) (h0 : 0 ≤ p) (h1 : p ≤ 1114111) : spec_l2Utf16.f p = some (u16M p) := by
  unfold spec_l2Utf16.f u16M
  by_cases c1 : p < 65536
  · rw [if_pos c1, if_pos c1, show p / 256 % 256 = p / 256 by omega]
  · rw [if_neg c1, if_neg c1, Pl.w64 (n := p - 65536) (by omega) (by omega), show bits .and .i64 (p - 65536) 1023 = (p - 65536) % 1024 from Pl.and_mask .i64 10 (by decide) _, or_hi 10 55296 ((p - 65536) / 1024) (by omega) (by decide) (by omega) (by omega) (by omega), or_hi 10 56320 ((p - 65536) % 1024) (by omega) (by decide) (by omega) (by omega) (by omega), show (55296 + (p - 65536) / 1024) / 256 % 256 = (55296 + (p - 65536) / 1024) / 256 by omega, show (56320 + (p - 65536) % 1024) / 256 % 256 = (56320 + (p - 65536) % 1024) / 256 by omega]
theorem encode_told2 (l : List Int) (code : Int) (g : goodPts l = true) (hc : 1 ≤ code ∧ code ≤ 3) : Ev (fun k => spec_l2Encode.f k l code) (encE l code) := by
  have hl3 := goodPts_len g
  have key : ∀ (m i : Nat), i + m = l.length → Ev (fun k => spec_l2Encode.l0 k code (encL code (l.take i)) l (l.length : Int) (i : Int)) (if code = 3 ∧ narrowB (l.drop i) = false then (⟨#[]⟩, false) else (strOfNums (encL code l), true)) := by
    intro m
    induction m with
    | zero =>
      intro i hi
      refine Pl.ev_const 1 fun k => ?_
      simp only [spec_l2Encode.l0]
      rw [if_neg (by omega), List.drop_of_length_le (by omega), show i = l.length by omega, List.take_length, if_neg (by unfold narrowB; simp)]
    | succ m ih =>
      intro i hi
      have hil : i < l.length := by omega
      have hn := ih (i + 1) (by omega)
      obtain ⟨p0, p1, p2⟩ := goodPts_at g i hil
      have hlen : (encL code (l.take i)).length ≤ 900000 := by have := encL_len code (l.take i); rw [List.length_take] at this; omega
      have hsn := encL_snoc code l i hil
      have u1 := enc1_len code l[i]
      have hnb : narrowB (l.drop i) = (decide (l[i] < 256) && narrowB (l.drop (i + 1))) := by unfold narrowB; rw [List.drop_eq_getElem_cons hil, List.all_cons]
      rw [hnb]
      rw [hsn] at hn
      by_cases c1 : code = 1
      · subst c1
        rw [if_neg (by omega)] at hn ⊢
        refine Pl.ev_skip 1 (fun k => ?_) hn
        simp only [spec_l2Encode.l0]
        rw [if_pos (by omega), if_pos (by omega), if_pos (by omega), Pl.rd_at l i hil, Pl.w64s i l.length (by omega) (by omega), if_pos trivial, utf8_told2 _ p0 p1, Option.bind_some, if_pos (by have := u8M_len l[i]; omega)]
        rfl
      · by_cases c2 : code = 2
        · subst c2
          rw [if_neg (by omega)] at hn ⊢
          refine Pl.ev_skip 1 (fun k => ?_) hn
          simp only [spec_l2Encode.l0]
          rw [if_pos (by omega), if_pos (by omega), if_pos (by omega), Pl.rd_at l i hil, Pl.w64s i l.length (by omega) (by omega), if_neg (by omega), if_pos trivial, utf16_told2 _ p0 p1, Option.bind_some, if_pos (by have := u16M_len l[i]; omega)]
          rfl
        · obtain rfl : code = 3 := by omega
          by_cases b : l[i] > 255
          · rw [decide_eq_false (by omega), Bool.false_and, if_pos ⟨rfl, rfl⟩]
            refine Pl.ev_const 1 fun k => ?_
            simp only [spec_l2Encode.l0]
            rw [if_pos (by omega), if_pos (by omega), if_pos (by omega), Pl.rd_at l i hil, if_neg (by omega), if_neg (by omega), if_pos b]
          · rw [decide_eq_true (by omega), Bool.true_and]
            refine Pl.ev_skip 1 (fun k => ?_) hn
            simp only [spec_l2Encode.l0]
            rw [if_pos (by omega), if_pos (by omega), if_pos (by omega), Pl.rd_at l i hil, Pl.w64s i l.length (by omega) (by omega), if_neg (by omega), if_neg (by omega), if_neg b, if_pos (by omega)]
            rfl
  have := key l.length 0 (by omega)
  unfold spec_l2Encode.f encE
  simp only [List.take_zero, List.drop_zero] at this
  exact this
end
/-- What CompactBytes tells. -/
def cmpB (l : List Int) : ByteArray × Bool × Bool := if goodPts l = true then (if narrowB l = true then (strOfNums (encL 3 l), false, true) else (strOfNums (encL 2 l), true, true)) else (⟨#[]⟩, false, false)
section
open PCompactBytes
theorem compact_told (l : List Int) (hl : l.length ≤ 1048576) : Ev (fun k => spec_CompactBytes.f k l) (cmpB l) := by
  unfold spec_CompactBytes.f cmpB
  refine (points_spec2 l (by omega)).bind ?_
  by_cases g : goodPts l = true
  · simp only [if_pos g]
    refine (encode_told2 l 3 g (by decide)).bind ?_
    unfold encE
    cases n : narrowB l with
    | true =>
      simp only [Bool.true_eq_false, and_false, if_false, if_true]
      exact Ev.now _
    | false =>
      simp only [and_self, if_true, Bool.false_eq_true, if_false]
      refine (encode_told2 l 2 g (by decide)).bind ?_
      exact Ev.now _
  · simp only [if_neg g]
    exact Ev.now _
end
theorem spec_CompactBytes (A : Option Addr) (c : Nat) (l : List Int) (w : World) (hr : Kd.C (Kd.int .i64) w A l.length l) (hc : l.length ≤ c) (hl : l.length ≤ 1048576) : Calls Tryd.prog 12 #[.slice A l.length c] w fun e w' => e = .returned (.tuple #[.string (cmpB l).1, .bool (cmpB l).2.1, .bool (cmpB l).2.2]) ∧ Below w.heap.size w w' := by
  obtain ⟨k, hk⟩ := (compact_told l hl).rounds
  exact PCompactBytes.spec_CompactBytes.calls k A c l _ _ _ w hr hc hk
theorem impl_SizeAs (A : Option Addr) (c : Nat) (l : List Int) (code : Int) (w : World) (hr : Kd.C (Kd.int .i64) w A l.length l) (hc : l.length ≤ c) (hl : l.length ≤ 1048576) : Calls Tryd.prog 9 #[.slice A l.length c, .int .i64 code] w fun e w' => e = .returned (.tuple #[.int .i64 (encM l code).1.size, .bool (encM l code).2]) ∧ Below w.heap.size w w' := by
  have ce := fun w hr => encode_i A c l code w hr hc hl
  have HR := Aside0.mk hr
  clear hr
  generalize encM l code = r at *
  obtain ⟨s, ok⟩ := r
  go_enter Tryd.func9, Tryd.ntmps9
  go_wp2_with (go_at_call 6; (with_reducible refine (ce _ HR.out).mono ?_); rintro e w1 ⟨rfl, B1⟩)
  go_ret2
  exact ⟨rfl, B1⟩
theorem impl_CompactBytes (A : Option Addr) (c : Nat) (l : List Int) (w : World) (hr : Kd.C (Kd.int .i64) w A l.length l) (hc : l.length ≤ c) (hl : l.length ≤ 1048576) : Calls Tryd.prog 11 #[.slice A l.length c] w fun e w' => e = .returned (.tuple #[.string (cmpB l).1, .bool (cmpB l).2.1, .bool (cmpB l).2.2]) ∧ Below w.heap.size w w' := by
  have c3 := fun w hr => encode_i A c l 3 w hr hc hl
  have c2 := fun w hr => encode_i A c l 2 w hr hc hl
  have HR := Aside0.mk hr
  clear hr
  by_cases g : goodPts l = true
  · have e2 : encM l 2 = (strOfNums (encL 2 l), true) := by rw [encM_good g 2 (by decide)]; unfold encE; rw [if_neg (by omega)]
    rw [e2] at c2
    cases n : narrowB l with
    | true =>
      have e3 : encM l 3 = (strOfNums (encL 3 l), true) := by rw [encM_good g 3 (by decide)]; unfold encE; rw [if_neg (by rw [n]; simp)]
      have hm : cmpB l = (strOfNums (encL 3 l), false, true) := by unfold cmpB; rw [if_pos g, if_pos n]
      rw [e3] at c3
      rw [hm]
      clear e2 e3 hm n g c2
      go_enter Tryd.func11, Tryd.ntmps11
      go_wp2_with (go_at_call 6; (with_reducible refine (c3 _ HR.out).mono ?_); rintro e w1 ⟨rfl, B1⟩)
      go_ret3
      exact ⟨rfl, B1⟩
    | false =>
      have e3 : encM l 3 = (⟨#[]⟩, false) := by rw [encM_good g 3 (by decide)]; unfold encE; rw [if_pos ⟨rfl, n⟩]
      have hm : cmpB l = (strOfNums (encL 2 l), true, true) := by unfold cmpB; rw [if_pos g, if_neg (by rw [n]; decide)]
      rw [e3] at c3
      rw [hm]
      clear e2 e3 hm n g
      go_enter Tryd.func11, Tryd.ntmps11
      go_wp2_with fail
      refine (c3 _ HR.out).mono ?_
      rintro e w1 ⟨rfl, B1⟩
      go_wp2_with fail
      refine (c2 _ (Kd.C_below HR.out B1)).mono ?_
      rintro e w2 ⟨rfl, B2⟩
      go_wp2_with fail
      go_ret3
      exact ⟨rfl, below_step B1 B2⟩
  · have g' := Bool.eq_false_iff.2 g
    have hm : cmpB l = (⟨#[]⟩, false, false) := by unfold cmpB; rw [if_neg g]
    rw [encM_bad (.inl g')] at c3 c2
    rw [hm]
    clear hm g g'
    go_enter Tryd.func11, Tryd.ntmps11
    go_wp2_with fail
    refine (c3 _ HR.out).mono ?_
    rintro e w1 ⟨rfl, B1⟩
    go_wp2_with fail
    refine (c2 _ (Kd.C_below HR.out B1)).mono ?_
    rintro e w2 ⟨rfl, B2⟩
    go_wp2_with fail
    go_ret3
    exact ⟨rfl, below_step B1 B2⟩

end Go.Proofs.YtchjmkofdiejhaaDoor.OwnTextF
namespace Go.Proofs.YtchjmkofdiejhaaDoor.OwnCpK
open Go Go.RowKit Go.Proofs.YtchjmkofdiejhaaDoorW.PrintWords Go.Proofs.YtchjmkofdiejhaaDoorW.PrintLast Go.Proofs.YtchjmkofdiejhaaDoorW.PrintMore Go.Proofs.YtchjmkofdiejhaaDoor.OwnIs Go.Proofs.YtchjmkofdiejhaaDoor.OwnDcP Go.Proofs.YtchjmkofdiejhaaDoor.OwnDcQ Go.Proofs.YtchjmkofdiejhaaDoor.OwnDcI Go.Proofs.YtchjmkofdiejhaaDoor.OwnDcK
set_option linter.unusedVariables false
set_option linter.unusedSimpArgs false
theorem pts_of {l : List Int} (h : l.all goodB = true ∧ l.length ≤ 300) : OwnText.goodPts l = true := by
  unfold OwnText.goodPts
  have e : OwnText.goodB = goodB := by
    funext p
    unfold OwnText.goodB goodB
    exact decide_eq_decide.2 (by omega)
  rw [e, h.1, decide_eq_true h.2]
  rfl
theorem enc3 (l : List Int) : (OwnTextE.encE l 3).2 = OwnText.narrowB l := by
  unfold OwnTextE.encE
  cases h : OwnText.narrowB l with
  | true => rw [if_neg (by simp)]
  | false => rw [if_pos ⟨rfl, rfl⟩]
/-- What CompactPoints tells. -/
def cpM (s : ByteArray) (wide : Bool) : List Int × Bool := if (decM (if wide = true then 2 else 3) s).2 = false ∨ (wide = true ∧ OwnText.narrowB (decM (if wide = true then 2 else 3) s).1 = true) then ([], false) else ((decM (if wide = true then 2 else 3) s).1, true)
theorem cpM_len (s : ByteArray) (wide : Bool) : (cpM s wide).1.length ≤ 300 := by
  have h := (decM_good (if wide = true then 2 else 3) s).2
  unfold cpM
  generalize decM (if wide = true then 2 else 3) s = r at *
  split
  · exact Nat.zero_le _
  · exact h
set_option maxRecDepth 100000 in
set_option maxHeartbeats 8000000 in
theorem cp_i (wide : Bool) (s : ByteArray) (hs : s.size ≤ 1048576) (w : World) (hT : Tabs w) : Calls Tryd.prog 13 #[.string s, .bool wide] w (EoPost w (cpM s wide)) := by
  unfold cpM
  cases wide with
  | true =>
    simp only [if_true, Bool.false_eq_true, if_false]
    have hno := decM_no 2 s
    have hgd := pts_of (decM_good 2 s)
    have hln := (decM_good 2 s).2
    have cd := fun W (B : Below w.heap.size w W) => dec_i 2 (by decide) s hs W (Utf8Tabs_below hT B)
    generalize decM 2 s = r at *
    obtain ⟨E, ok⟩ := r
    simp only at cd hno hgd hln
    cases ok with
    | false =>
      obtain rfl := hno (by first | rfl | trivial)
      rw [if_pos (.inl rfl)]
      clear hno
      go_enter Tryd.func13, Tryd.ntmps13
      go_wp2_with fail
      refine (cd _ (Below.refl _ _)).mono ?_
      rintro e w2 ⟨A2, c2, rfl, R2, B2⟩
      have B := B2
      clear cd hgd
      go_wp2_with fail
      go_ret2
      exact ⟨none, 0, rfl, Kd.R_nil _ _ _ _ _, B⟩
    | true =>
      cases hnb : OwnText.narrowB E with
      | true =>
        rw [if_pos (.inr ⟨(by first | rfl | trivial), (by first | rfl | trivial)⟩)]
        go_enter Tryd.func13, Tryd.ntmps13
        go_wp2_with fail
        refine (cd _ (Below.refl _ _)).mono ?_
        rintro e w2 ⟨A2, c2, rfl, R2, B2⟩
        have B := Aside0.mk B2
        have HR2 := Aside0.mk R2
        have hrd := Kd.R_reads' R2
        have HC := Aside0.mk hrd.2.2
        have HL := Aside0.mk hrd.2.1
        clear cd hno R2 B2 hrd
        have cn := fun W (h : Kd.C (Kd.int .i64) W A2 E.length E) => OwnText.narrow_i A2 c2 E W h HL.out (by omega)
        rw [hnb] at cn
        clear hnb
        go_wp2_with (go_at_call 21; (with_reducible refine (cn _ HC.out).mono ?_); rintro e w3 ⟨rfl, n3, rfl⟩)
        go_ret2
        exact ⟨none, 0, rfl, Kd.R_nil _ _ _ _ _, pw_below_drewN B.out _⟩
      | false =>
        rw [if_neg (by simp)]
        go_enter Tryd.func13, Tryd.ntmps13
        go_wp2_with fail
        refine (cd _ (Below.refl _ _)).mono ?_
        rintro e w2 ⟨A2, c2, rfl, R2, B2⟩
        have B := Aside0.mk B2
        have HR2 := Aside0.mk R2
        have hrd := Kd.R_reads' R2
        have HC := Aside0.mk hrd.2.2
        have HL := Aside0.mk hrd.2.1
        clear cd hno R2 B2 hrd
        have cn := fun W (h : Kd.C (Kd.int .i64) W A2 E.length E) => OwnText.narrow_i A2 c2 E W h HL.out (by omega)
        rw [hnb] at cn
        clear hnb
        go_wp2_with (go_at_call 21; (with_reducible refine (cn _ HC.out).mono ?_); rintro e w3 ⟨rfl, n3, rfl⟩)
        go_ret2
        exact ⟨A2, c2, rfl, Kd.R_below HR2.out (pw_below_drewN (Below.refl _ _) _), pw_below_drewN B.out _⟩
  | false =>
    simp only [if_true, Bool.false_eq_true, if_false]
    have hno := decM_no 3 s
    have hgd := pts_of (decM_good 3 s)
    have hln := (decM_good 3 s).2
    have cd := fun W (B : Below w.heap.size w W) => dec_i 3 (by decide) s hs W (Utf8Tabs_below hT B)
    generalize decM 3 s = r at *
    obtain ⟨E, ok⟩ := r
    simp only at cd hno hgd hln
    cases ok with
    | false =>
      obtain rfl := hno (by first | rfl | trivial)
      rw [if_pos (.inl rfl)]
      clear hno
      go_enter Tryd.func13, Tryd.ntmps13
      go_wp2_with fail
      refine (cd _ (Below.refl _ _)).mono ?_
      rintro e w2 ⟨A2, c2, rfl, R2, B2⟩
      have B := B2
      clear cd hgd
      go_wp2_with fail
      go_ret2
      exact ⟨none, 0, rfl, Kd.R_nil _ _ _ _ _, B⟩
    | true =>
      rw [if_neg (by simp)]
      go_enter Tryd.func13, Tryd.ntmps13
      go_wp2_with fail
      refine (cd _ (Below.refl _ _)).mono ?_
      rintro e w2 ⟨A2, c2, rfl, R2, B2⟩
      have B := Aside0.mk B2
      have HR2 := Aside0.mk R2
      have hrd := Kd.R_reads' R2
      have HC := Aside0.mk hrd.2.2
      have HL := Aside0.mk hrd.2.1
      clear cd hno R2 B2 hrd
      go_wp2_with fail
      go_ret2
      exact ⟨A2, c2, rfl, HR2.out, B.out⟩
end Go.Proofs.YtchjmkofdiejhaaDoor.OwnCpK
namespace Go.Proofs.YtchjmkofdiejhaaDoor.OwnRt
open Go Go.RowKit Go.Proofs.YtchjmkofdiejhaaDoorW.PrintWords Go.Proofs.YtchjmkofdiejhaaDoor.OwnDcP Go.Proofs.YtchjmkofdiejhaaDoor.OwnDcQ Go.Proofs.YtchjmkofdiejhaaDoor.OwnDcI Go.Proofs.YtchjmkofdiejhaaDoor.OwnDcK
open Go.Proofs.YtchjmkofdiejhaaDoor.OwnText (enc1 encL narrowB u16M encM)
set_option linter.unusedVariables false
set_option linter.unusedSimpArgs false
theorem front_get (s : ByteArray) (l : List Int) (h : front s l.length = l) (i : Nat) (hi : i < l.length) : bt s (i : Int) = l[i] := by
  have h1 : (front s l.length)[i]? = l[i]? := by rw [h]
  unfold front at h1
  rw [List.getElem?_map, List.getElem?_range hi, List.getElem?_eq_getElem hi] at h1
  simpa using h1
theorem front_take (s : ByteArray) (n : Nat) (h : n ≤ s.size) : front s n = (bytesOf s).take n := by
  unfold front bytesOf
  apply List.ext_getElem
  · have : s.data.size = s.size := rfl
    simp [this]; omega
  · intro i h1 h2
    simp at h1
    have hi : i < s.size := by omega
    have := bt_at s (i : Int) (by simpa using hi)
    simp only [List.getElem_map, List.getElem_range, ← this, List.getElem_take]
    simp [ByteArray.getElem_eq_getElem_data]
theorem bytesOf_drop (s : ByteArray) (n : Nat) : bytesOf (s.extract n s.size) = (bytesOf s).drop n := by
  unfold bytesOf
  rw [ByteArray.data_extract, Array.toList_extract]
  simp [List.map_drop, List.map_take]
  rw [List.take_of_length_le]
  have : s.data.size = s.size := rfl
  simp [this]
theorem bytesOf_size (s : ByteArray) : (bytesOf s).length = s.size := by
  unfold bytesOf
  rw [List.length_map]
  rfl
theorem one_enc (p : Int) (h0 : 0 ≤ p) (h1 : p ≤ 1114111) (s : ByteArray) (hs : (u8M p).length ≤ s.size) (h : front s (u8M p).length = u8M p) : oneM s = (p, ((u8M p).length : Int)) := by
  have key : ∀ n q, (u8M p).length = n → q = p → oneN s n q = (p, (n : Int)) := by
    rintro n q rfl rfl
    unfold oneN
    rw [if_neg (by omega), if_pos h.symm]
  have g := fun i hi => front_get s (u8M p) h i hi
  unfold oneM
  by_cases c1 : p < 128
  · have e : u8M p = [p] := by unfold u8M; exact if_pos c1
    simp only [e] at g key ⊢
    have b0 := g 0 (by simp)
    simp at b0
    rw [if_neg (by omega), if_neg (by omega), if_neg (by omega)]
    exact key 1 _ rfl (by omega)
  · by_cases c2 : p < 2048
    · have e : u8M p = [192 + p / 64, 128 + p % 64] := by unfold u8M; rw [if_neg c1, if_pos c2]
      simp only [e] at g key ⊢
      have b0 := g 0 (by simp)
      have b1 := g 1 (by simp)
      simp at b0 b1
      rw [if_neg (by omega), if_neg (by omega), if_pos (by omega)]
      exact key 2 _ rfl (by omega)
    · by_cases c3 : p < 65536
      · have e : u8M p = [224 + p / 4096, 128 + p / 64 % 64, 128 + p % 64] := by unfold u8M; rw [if_neg c1, if_neg c2, if_pos c3]
        simp only [e] at g key ⊢
        have b0 := g 0 (by simp)
        have b1 := g 1 (by simp)
        have b2 := g 2 (by simp)
        simp at b0 b1 b2
        rw [if_neg (by omega), if_pos (by omega)]
        exact key 3 _ rfl (by omega)
      · have e : u8M p = [240 + p / 262144, 128 + p / 4096 % 64, 128 + p / 64 % 64, 128 + p % 64] := by unfold u8M; rw [if_neg c1, if_neg c2, if_neg c3]
        simp only [e] at g key ⊢
        have b0 := g 0 (by simp)
        have b1 := g 1 (by simp)
        have b2 := g 2 (by simp)
        have b3 := g 3 (by simp)
        simp at b0 b1 b2 b3
        rw [if_pos (by omega)]
        exact key 4 _ rfl (by omega)
theorem s16_enc (p : Int) (h0 : 0 ≤ p) (h1 : p ≤ 1114111) (h2 : p < 55296 ∨ 57343 < p) (s : ByteArray) (hs : (u16M p).length ≤ s.size) (h : front s (u16M p).length = u16M p) : s16 s = (p, ((u16M p).length : Int)) := by
  have g := fun i hi => front_get s (u16M p) h i hi
  unfold s16 w0 w1
  by_cases c1 : p < 65536
  · have e : u16M p = [p % 256, p / 256] := by unfold u16M; exact if_pos c1
    simp only [e] at g hs ⊢
    have b0 := g 0 (by simp)
    have b1 := g 1 (by simp)
    simp at b0 b1 hs
    rw [if_neg (by omega), if_neg (by omega)]
    rw [b0, b1]
    simp; omega
  · have e : u16M p = [(55296 + (p - 65536) / 1024) % 256, (55296 + (p - 65536) / 1024) / 256, (56320 + (p - 65536) % 1024) % 256, (56320 + (p - 65536) % 1024) / 256] := by unfold u16M; exact if_neg c1
    simp only [e] at g hs ⊢
    have b0 := g 0 (by simp)
    have b1 := g 1 (by simp)
    have b2 := g 2 (by simp)
    have b3 := g 3 (by simp)
    simp at b0 b1 b2 b3 hs
    rw [if_neg (by omega), if_pos (by omega)]
    rw [b0, b1, b2, b3]
    simp; omega
/-- A point's bytes ahead: the step reads the point. -/
theorem sp_enc (code p : Int) (hc : 1 ≤ code ∧ code ≤ 3) (g : goodB p = true) (n : code = 3 → p < 256) (s : ByteArray) (hs : (enc1 code p).length ≤ s.size) (h : front s (enc1 code p).length = enc1 code p) : sp code s = (p, ((enc1 code p).length : Int)) := by
  have g := good_dec.1 g
  unfold enc1 at *
  unfold sp
  by_cases c1 : code = 1
  · simp only [if_pos c1] at *
    exact one_enc p g.1 g.2.1 s hs h
  · simp only [if_neg c1] at *
    by_cases c2 : code = 2
    · simp only [if_pos c2] at *
      exact s16_enc p g.1 g.2.1 g.2.2 s hs h
    · simp only [if_neg c2] at *
      have := front_get s _ h 0 (by simp)
      simp at this
      have := n (by omega)
      simp; omega
theorem oneN_back (s : ByteArray) (n : Nat) (q : Int) (h : (oneN s n q).2 ≠ 0) : (oneN s n q).2 = (n : Int) ∧ n ≤ s.size ∧ u8M (oneN s n q).1 = front s n := by
  unfold oneN at *
  by_cases c1 : s.size < n
  · rw [if_pos c1] at h; exact absurd rfl h
  · rw [if_neg c1] at h ⊢
    by_cases c2 : u8M q = front s n
    · rw [if_pos c2]; exact ⟨rfl, by omega, c2⟩
    · rw [if_neg c2] at h; exact absurd rfl h
theorem front_length (s : ByteArray) (n : Nat) : (front s n).length = n := by unfold front; simp
/-- What the step reads: its bytes are the point's. -/
theorem enc_sp (code : Int) (hc : 1 ≤ code ∧ code ≤ 3) (s : ByteArray) (h0 : 0 < s.size) (h : (sp code s).2 ≠ 0) (g : goodB (sp code s).1 = true) : ∃ m : Nat, (sp code s).2 = (m : Int) ∧ m ≤ s.size ∧ front s m = enc1 code (sp code s).1 ∧ (code = 3 → (sp code s).1 < 256) := by
  have g := good_dec.1 g
  unfold enc1
  unfold sp at *
  by_cases c1 : code = 1
  · simp only [if_pos c1] at *
    unfold oneM at *
    split at h
    · rename_i k; rw [if_pos k] at g ⊢
      obtain ⟨h1, h2, h3⟩ := oneN_back s _ _ h
      exact ⟨4, h1, h2, h3.symm, by omega⟩
    · rename_i k; rw [if_neg k] at g ⊢
      split at h
      · rename_i k; rw [if_pos k] at g ⊢
        obtain ⟨h1, h2, h3⟩ := oneN_back s _ _ h
        exact ⟨3, h1, h2, h3.symm, by omega⟩
      · rename_i k; rw [if_neg k] at g ⊢
        split at h
        · rename_i k; rw [if_pos k] at g ⊢
          obtain ⟨h1, h2, h3⟩ := oneN_back s _ _ h
          exact ⟨2, h1, h2, h3.symm, by omega⟩
        · rename_i k; rw [if_neg k] at g ⊢
          obtain ⟨h1, h2, h3⟩ := oneN_back s _ _ h
          exact ⟨1, h1, h2, h3.symm, by omega⟩
  · simp only [if_neg c1] at *
    have r0 := bt_range s 0
    have r1 := bt_range s 1
    have r2 := bt_range s 2
    have r3 := bt_range s 3
    by_cases c2 : code = 2
    · simp only [if_pos c2] at *
      unfold s16 at *
      by_cases d1 : s.size < 2
      · rw [if_pos d1] at h; exact absurd rfl h
      · rw [if_neg d1] at h g ⊢
        by_cases d2 : (55296 ≤ w0 s ∧ w0 s ≤ 56319) ∧ 3 < s.size ∧ (56320 ≤ w1 s ∧ w1 s ≤ 57343)
        · rw [if_pos d2] at h g ⊢
          refine ⟨4, rfl, by omega, ?_, by omega⟩
          have e : front s 4 = [bt s 0, bt s 1, bt s 2, bt s 3] := rfl
          rw [e]
          unfold w0 w1 at *
          simp only at g ⊢
          unfold u16M
          rw [if_neg (by omega)]
          simp only [List.cons.injEq, and_true]
          refine ⟨?_, ?_, ?_, ?_⟩ <;> omega
        · rw [if_neg d2] at h g ⊢
          refine ⟨2, rfl, by omega, ?_, by omega⟩
          have e : front s 2 = [bt s 0, bt s 1] := rfl
          rw [e]
          unfold w0 w1 at *
          simp only at g ⊢
          unfold u16M
          rw [if_pos (by omega)]
          simp only [List.cons.injEq, and_true]
          refine ⟨?_, ?_⟩ <;> omega
    · simp only [if_neg c2] at *
      refine ⟨1, rfl, by omega, ?_, by omega⟩
      have e : front s 1 = [bt s 0] := rfl
      rw [e]
      simp; omega
theorem enc1_pos (code p : Int) : 1 ≤ (enc1 code p).length := by
  unfold enc1 OwnText.u8M u16M
  repeat (first | split | simp)
/-- Points' bytes read on: the points. -/
theorem dec_enc (code : Int) (hc : 1 ≤ code ∧ code ≤ 3) : ∀ (l : List Int) (f : Nat) (s : ByteArray) (acc : List Int), bytesOf s = encL code l → l.all goodB = true → (code = 3 → narrowB l = true) → acc.length + l.length ≤ 300 → s.size < f → decI code f s acc = (acc ++ l, true)
  | [], f + 1, s, acc, h, _, _, _, _ => by
    unfold decI
    have : (bytesOf s).length = 0 := by rw [h]; rfl
    rw [bytesOf_size] at this
    rw [if_pos this, List.append_nil]
  | p :: l, f + 1, s, acc, h, hg, hn, hl, hf => by
    have hz := bytesOf_size s
    have ep := enc1_pos code p
    have e : encL code (p :: l) = enc1 code p ++ encL code l := by unfold encL; rw [List.flatMap_cons]
    rw [e] at h
    rw [h, List.length_append] at hz
    rw [List.all_cons, Bool.and_eq_true] at hg
    have hn1 : code = 3 → p < 256 := fun c => by
      have := hn c
      unfold narrowB at this
      rw [List.all_cons, Bool.and_eq_true, decide_eq_true_eq] at this
      exact this.1
    have hn2 : code = 3 → narrowB l = true := fun c => by
      have := hn c
      unfold narrowB at this ⊢
      rw [List.all_cons, Bool.and_eq_true] at this
      exact this.2
    have hsp := sp_enc code p hc hg.1 hn1 s (by omega) (by rw [front_take s _ (by omega), h, List.take_left'] ; rfl)
    have hlk := like_all code s (by omega)
    unfold Like at hlk
    rw [hsp, if_pos ⟨by simp only; omega, hg.1⟩] at hlk
    rw [List.length_cons] at hl
    unfold decI
    rw [if_neg (by omega), hlk, if_neg (by simp only; omega)]
    simp only [Int.toNat_natCast]
    rw [dec_enc code hc l f _ (acc ++ [p]) (by rw [bytesOf_drop, h, List.drop_left'] ; rfl) hg.2 hn2 (by rw [List.length_append]; simp; omega) (by rw [ByteArray.size_extract]; omega)]
    simp
/-- What is read on: its bytes are the text. -/
theorem enc_dec (code : Int) (hc : 1 ≤ code ∧ code ≤ 3) : ∀ (f : Nat) (s : ByteArray) (acc r : List Int), decI code f s acc = (r, true) → ∃ l, r = acc ++ l ∧ bytesOf s = encL code l ∧ (code = 3 → narrowB l = true)
  | 0, s, acc, r, h => by unfold decI at h; cases h
  | f + 1, s, acc, r, h => by
    unfold decI at h
    by_cases z : s.size = 0
    · rw [if_pos z] at h
      cases h
      refine ⟨[], (List.append_nil _).symm, ?_, fun _ => rfl⟩
      have := bytesOf_size s
      exact List.eq_nil_of_length_eq_zero (by omega)
    · rw [if_neg z] at h
      by_cases c : (im code s).2 = 0 ∨ acc.length = 300
      · rw [if_pos c] at h; cases h
      · rw [if_neg c] at h
        have hlk := like_all code s (by omega)
        unfold Like at hlk
        split at hlk
        · rename_i k
          obtain ⟨m, h1, h2, h3, h4⟩ := enc_sp code hc s (by omega) k.1 k.2
          rw [hlk, h1] at h
          simp only [Int.toNat_natCast] at h
          obtain ⟨l, e1, e2, e3⟩ := enc_dec code hc f _ _ _ h
          refine ⟨(sp code s).1 :: l, by rw [e1]; simp, ?_, ?_⟩
          · have : encL code ((sp code s).1 :: l) = enc1 code (sp code s).1 ++ encL code l := by unfold encL; rw [List.flatMap_cons]
            rw [this, ← h3, ← e2, bytesOf_drop, front_take s m h2, List.take_append_drop]
          · intro c3
            have := e3 c3
            unfold narrowB at this ⊢
            rw [List.all_cons, Bool.and_eq_true, decide_eq_true_eq]
            exact ⟨h4 c3, this⟩
        · rw [hlk] at c
          exact absurd (.inl rfl) c
theorem strOfNums_bytesOf (s : ByteArray) : strOfNums (bytesOf s) = s := by
  unfold strOfNums bytesOf
  rw [List.map_map]
  have : ((fun x : Int => UInt8.ofNat x.toNat) ∘ fun b : UInt8 => (b.toNat : Int)) = id := by
    funext b
    simp
  apply ByteArray.ext
  simp [this]
theorem enc1_bytes (code p : Int) (g : goodB p = true) : ∀ x ∈ enc1 code p, 0 ≤ x ∧ x < 256 := by
  have g := good_dec.1 g
  unfold enc1
  split
  · exact u8M_bytes p g.1 (by omega)
  · split
    · unfold u16M
      split
      · intro x hx; simp at hx; omega
      · intro x hx; simp at hx; omega
    · intro x hx; simp at hx; omega
theorem encL_bytes (code : Int) (l : List Int) (g : l.all goodB = true) : bytesOf (strOfNums (encL code l)) = encL code l := by
  refine bytesOf_strOfNums _ (fun x hx => ?_)
  unfold encL at hx
  obtain ⟨p, h1, h2⟩ := List.mem_flatMap.1 hx
  exact enc1_bytes code p (List.all_eq_true.1 g p h1) x h2
/-- Encoded and decoded. -/
theorem rt1 (code : Int) (hc : 1 ≤ code ∧ code ≤ 3) (l : List Int) (g : l.all goodB = true) (hl : l.length ≤ 300) (n : code = 3 → narrowB l = true) : decM code (strOfNums (encL code l)) = (l, true) := by
  unfold decM
  rw [dec_enc code hc l _ (strOfNums (encL code l)) [] (encL_bytes code l g) g n (by simpa using hl) (by omega)]
  rfl
/-- Decoded and encoded. -/
theorem rt2 (code : Int) (hc : 1 ≤ code ∧ code ≤ 3) (s : ByteArray) (h : (decM code s).2 = true) : strOfNums (encL code (decM code s).1) = s ∧ (code = 3 → narrowB (decM code s).1 = true) := by
  obtain ⟨l, h1, h2, h3⟩ := enc_dec code hc (s.size + 1) s [] (decM code s).1 (by rw [← h]; rfl)
  rw [List.nil_append] at h1
  rw [h1]
  exact ⟨by rw [← h2, strOfNums_bytesOf], h3⟩
end Go.Proofs.YtchjmkofdiejhaaDoor.OwnRt
namespace Go.Proofs.YtchjmkofdiejhaaDoor.OwnCu
open Go Go.RowKit Go.Proofs.YtchjmkofdiejhaaDoorW.PrintWords Go.Proofs.YtchjmkofdiejhaaDoorW.PrintLast Go.Proofs.YtchjmkofdiejhaaDoorW.PrintMore Go.Proofs.YtchjmkofdiejhaaDoor.OwnIs
set_option linter.unusedVariables false
set_option linter.unusedSimpArgs false
/-- The cursor's box: it stands at M at most. -/
def Cu (w0 W : World) (g : Nat) (M : Nat) : Prop := ∃ (A : Option Addr) (c : Nat) (code : List Int) (p s : Int), W.heap[g]? = some (.cells #[.slice A code.length c, .int .i64 p, .int .u64 s] 44 (0, 0)) ∧ w0.heap.size ≤ g ∧ Kd.C (Kd.int .u8) w0 A code.length code ∧ code.length ≤ 1048576 ∧ (∀ x ∈ code, 0 ≤ x ∧ x < 256) ∧ 0 ≤ p ∧ p ≤ M
theorem Cu.ge {w0 W : World} {g M : Nat} (h : Cu w0 W g M) : w0.heap.size ≤ g := by obtain ⟨_, _, _, _, _, _, h, _⟩ := h; exact h
theorem Cu.lt {w0 W : World} {g M : Nat} (h : Cu w0 W g M) : g < W.heap.size := by obtain ⟨_, _, _, _, _, h, _⟩ := h; exact blk_lt h
theorem Cu.up {w0 W : World} {g M M' : Nat} (h : Cu w0 W g M) (hM : M ≤ M') : Cu w0 W g M' := by obtain ⟨A, c, code, p, s, h1, h2, h3, h4, h5, h6, h7⟩ := h; exact ⟨A, c, code, p, s, h1, h2, h3, h4, h5, h6, by omega⟩
theorem Cu.blk {w0 W W1 : World} {g M : Nat} (h : Cu w0 W g M) (e : W1.heap[g]? = W.heap[g]?) : Cu w0 W1 g M := by obtain ⟨A, c, code, p, s, h1, r⟩ := h; exact ⟨A, c, code, p, s, e.trans h1, r⟩
theorem Cu.below {w0 W W1 : World} {g M : Nat} (h : Cu w0 W g M) (hb : Below W.heap.size W W1) : Cu w0 W1 g M := h.blk (hb.block g h.lt)
theorem Cu.grown {w0 W W1 : World} {g M : Nat} {row : Option Nat} (h : Cu w0 W g M) (hg : W.grownBy W1 row) (hr : some g ≠ row) : Cu w0 W1 g M := h.blk (hg.block g h.lt hr)
/-- What a method of the cursor leaves. -/
structure Cp (w0 W w' : World) (g M : Nat) : Prop where
  cu : Cu w0 w' g M
  bel : Below w0.heap.size w0 w'
  keep : KeepBut W w' g none
theorem Cp.below {w0 W W1 w' : World} {g M : Nat} (h : Cp w0 W W1 g M) (hb : Below W1.heap.size W1 w') : Cp w0 W w' g M := ⟨h.cu.below hb, below_step h.bel hb, h.keep.trans (KeepBut.of_below hb g none) (.inl rfl)⟩
theorem Cp.trans {w0 W W1 w' : World} {g M M' : Nat} (h : Cp w0 W W1 g M) (k : Cp w0 W1 w' g M') : Cp w0 W w' g M' := ⟨k.cu, k.bel, h.keep.trans k.keep (.inl rfl)⟩
theorem Cp.start {w0 W : World} {g M : Nat} (h : Cu w0 W g M) (hB : Below w0.heap.size w0 W) : Cp w0 W W g M := ⟨h, hB, KeepBut.refl _ _ _⟩
theorem and255 (x : Int) : 0 ≤ bits .and .u64 x 255 ∧ bits .and .u64 x 255 ≤ 255 := by
  have h : bits .and .u64 x 255 = x % 256 := Pl.and_mask .u64 8 (by decide) x
  omega
set_option maxRecDepth 100000 in
set_option maxHeartbeats 8000000 in
theorem next_s (g M : Nat) (hM : M ≤ 1000000100) (w0 W : World) (hI : Cu w0 W g M) (hB : Below w0.heap.size w0 W) : Calls Tryd.prog 45 #[.pointer (some ⟨g, 0, none⟩)] W fun e w' => ∃ r : Int, e = .returned (.int .i64 r) ∧ (0 ≤ r ∧ r ≤ 255) ∧ Cp w0 W w' g (M + 1) := by
  have HI := Aside0.mk hI
  have HB := Aside0.mk hB
  obtain ⟨A, c, code, p, s, h1, h2, h3, h4, h5, h6, h7⟩ := hI
  have HG := Aside0.mk h1
  have hc0 : W.cell? ⟨g, 0, none⟩ = some (.slice A code.length c) := (blk_cell h1 0).trans rfl
  have hc1 : W.cell? ⟨g, 1, none⟩ = some (.int .i64 p) := (blk_cell h1 1).trans rfl
  have hc2 : W.cell? ⟨g, 2, none⟩ = some (.int .u64 s) := (blk_cell h1 2).trans rfl
  have hf1 := blk_frozen h1 1
  have hf2 := blk_frozen h1 2
  have hgl := blk_lt h1
  have ew : IntKind.i64.wrap (p + 1) = p + 1 := by rw [IntKind.wrap_i64]; omega
  have H2 := Aside0.mk h2
  have fin : ∀ (n m : Nat) (s' : Int), Cp w0 W ((((W.drewN n).setCell ⟨g, 1, none⟩ (.int .i64 (p + 1))).setCell ⟨g, 2, none⟩ (.int .u64 s')).drewN m) g (M + 1) := by
    intro n m s'
    have e1 := heap_setCell_same (W.drewN n) g 1 _ _ (.int .i64 (p + 1)) (show (W.drewN n).heap[g]? = _ from h1)
    have e2 := heap_setCell_same _ g 2 _ _ (.int .u64 s') e1
    exact ⟨⟨A, c, code, p + 1, s', e2, h2, h3, h4, h5, by omega, by omega⟩, pw_below_drewN (below_set (below_set (pw_below_drewN hB n) h2) h2) m, keep_drewN (KeepBut.set_ (KeepBut.set_ (keep_drewN (KeepBut.refl _ _ _) n) _ _) _ _) m⟩
  have HF := Aside0.mk fin
  by_cases c1 : p < code.length
  · have d1 : decide (p < (code.length : Int)) = true := decide_eq_true c1
    have d2 : decide (p + 1 ≤ (code.length : Int)) = true := decide_eq_true (by omega)
    obtain ⟨pn, rfl⟩ : ∃ n : Nat, p = n := ⟨p.toNat, by omega⟩
    obtain ⟨ad, e, hy0⟩ := (Kd.reads_of_C (d := (0 : Int)) h3).at_ pn (by omega) c1
    subst e
    replace hy0 := (hB.cell (World.block_lt_of_cell? w0 _ hy0)).trans hy0
    rw [Pl.rdOf_at 0 code pn (by omega)] at hy0
    simp only [Int.toNat_natCast] at hy0
    have hx := h5 code[pn] (List.getElem_mem (by omega))
    have HX := Aside0.mk hx
    have p1 : (0 : Int) ≤ (pn : Int) := by omega
    have p2 : (pn : Int) < (code.length : Int) := c1
    have ew2 : IntKind.i64.wrap code[pn] = code[pn] := by rw [IntKind.wrap_i64]; omega
    generalize code[pn] = x at *
    clear hB h1 h2 h3 h4 h5 h6 h7 hx c1 fin
    go_enter Tryd.func45, Tryd.ntmps45
    go_wp2
    repeat (go_quiet (fail); try go_wp2)
    go_ret
    exact ⟨_, rfl, ⟨HX.out.1, by have := HX.out.2; omega⟩, HF.out _ _ _⟩
  · have d1 : decide (p < (code.length : Int)) = false := decide_eq_false c1
    have d2 : decide (p + 1 ≤ (code.length : Int)) = false := decide_eq_false (by omega)
    clear hB h1 h2 h3 h4 h5 h6 h7 c1 fin
    go_enter Tryd.func45, Tryd.ntmps45
    go_wp2
    repeat (go_quiet (fail); try go_wp2)
    go_ret
    refine ⟨_, rfl, ?_, HF.out _ _ _⟩
    have := and255 (IntKind.u64.wrap (IntKind.u64.wrap (IntKind.u64.wrap (s * 6364136223846793005)) + 1442695040888963407) / 1099511627776)
    rw [Pl.w64 (by omega) (by omega)]
    exact this
/-! ### pick and what leans on it -/
theorem lit_C (l : List Int) (W : World) (hl : l.length ≤ 1000 := by decide) : Kd.C (Kd.int .i64) (W.alloc (.cells (l.map (Value.int .i64)).toArray 3)) (some ⟨W.heap.size, 0, none⟩) l.length l := by
  refine Kd.C_of_reads (d := (0 : Int)) ⟨rfl, by omega, fun _ => ⟨_, rfl, fun j hj => ?_⟩⟩
  have h := World.rowIs_alloc W (l.map (Value.int .i64)).toArray 3 (fun i => .int .i64 (l.getD i 0)) (fun i hi => by
    have hi' : i < l.length := by simpa using hi
    simp [hi', List.getD_eq_getElem?_getD])
  have := h.cell (i := j) (by simpa using hj)
  have e : (Addr.mk W.heap.size 0 none).add j = ⟨W.heap.size, j, none⟩ := by simp [Addr.add]; omega
  rw [e, this]
set_option maxRecDepth 100000 in
set_option maxHeartbeats 8000000 in
theorem pick_s (g M : Nat) (hM : M ≤ 1000000) (w0 W : World) (hC : Cp w0 W W g M) (n : Int) (h1 : 1 ≤ n) (h2 : n ≤ 1000000000) : Calls Tryd.prog 30 #[.pointer (some ⟨g, 0, none⟩), .int .i64 n] W fun e w' => ∃ r : Int, e = .returned (.int .i64 r) ∧ (0 ≤ r ∧ r < n) ∧ Cp w0 W w' g (M + 2) := by
  have HC := Aside0.mk hC
  by_cases c1 : n ≤ 1
  · have d1 : decide (n ≤ 1) = true := decide_eq_true c1
    clear hC
    go_enter Tryd.func30, Tryd.ntmps30
    go_wp2
    go_ret
    exact ⟨0, rfl, by omega, ⟨HC.out.cu.up (by omega), HC.out.bel, HC.out.keep⟩⟩
  · have d1 : decide (n ≤ 1) = false := decide_eq_false c1
    have cn := next_s g M (by omega) w0 W hC.cu hC.bel
    have hn0 : (n == 0) = false := beq_eq_false_iff_ne.2 (by omega)
    have hn1 : ¬ n = 0 := by omega
    have HN := Aside0.mk (show 1 < n by omega)
    by_cases c2 : 200 < n
    · have d2 : decide (200 < n) = true := decide_eq_true c2
      have cn2 := fun w1 (h : Cp w0 W w1 g (M + 1)) => next_s g (M + 1) (by omega) w0 w1 h.cu h.bel
      clear hC c1 c2
      go_enter Tryd.func30, Tryd.ntmps30
      go_wp2_with fail
      refine cn.mono ?_
      rintro e w1 ⟨x, rfl, hx, hc1⟩
      have HC1 := Aside0.mk hc1
      have HX := Aside0.mk hx
      have e1 : IntKind.i64.wrap (x * 256) = x * 256 := by rw [IntKind.wrap_i64]; omega
      clear hc1 hx
      go_wp2_with fail
      refine (cn2 w1 HC1.out).mono ?_
      rintro e w2 ⟨y, rfl, hy, hc2⟩
      have HC2 := Aside0.mk (HC1.out.trans hc2)
      have e2 : IntKind.i64.wrap (x * 256 + y) = x * 256 + y := by rw [IntKind.wrap_i64]; have := HX.out; omega
      have b1 := Int.tmod_nonneg n (show 0 ≤ x * 256 + y by have := HX.out; omega)
      have b2 := Int.tmod_lt_of_pos (x * 256 + y) (show 0 < n by have := HN.out; omega)
      have B := Aside0.mk (⟨b1, b2⟩ : 0 ≤ (x * 256 + y).tmod n ∧ (x * 256 + y).tmod n < n)
      have e3 : IntKind.i64.wrap ((x * 256 + y).tmod n) = (x * 256 + y).tmod n := by rw [IntKind.wrap_i64]; have := B.out; have := h2; omega
      clear hc2 hy b1 b2
      go_wp2
      go_ret
      exact ⟨_, rfl, B.out, HC2.out⟩
    · have d2 : decide (200 < n) = false := decide_eq_false c2
      clear hC c1 c2
      go_enter Tryd.func30, Tryd.ntmps30
      go_wp2_with fail
      refine cn.mono ?_
      rintro e w1 ⟨x, rfl, hx, hc1⟩
      have HC2 := Aside0.mk hc1
      have b1 := Int.tmod_nonneg n hx.1
      have b2 := Int.tmod_lt_of_pos x (show 0 < n by have := HN.out; omega)
      have B := Aside0.mk (⟨b1, b2⟩ : 0 ≤ x.tmod n ∧ x.tmod n < n)
      have e3 : IntKind.i64.wrap (x.tmod n) = x.tmod n := by rw [IntKind.wrap_i64]; have := B.out; have := h2; omega
      clear hc1 hx b1 b2
      go_wp2
      go_ret
      exact ⟨_, rfl, B.out, ⟨HC2.out.cu.up (by omega), HC2.out.bel, HC2.out.keep⟩⟩
set_option maxRecDepth 100000 in
set_option maxHeartbeats 8000000 in
theorem one_s (g M : Nat) (hM : M ≤ 1000000) (w0 W : World) (hC : Cp w0 W W g M) (n : Int) (h1 : 1 ≤ n) (h2 : n ≤ 1000000000) : Calls Tryd.prog 31 #[.pointer (some ⟨g, 0, none⟩), .int .i64 n] W fun e w' => ∃ r : Bool, e = .returned (.bool r) ∧ Cp w0 W w' g (M + 2) := by
  have cp := pick_s g M hM w0 W hC n h1 h2
  clear hC
  go_enter Tryd.func31, Tryd.ntmps31
  go_wp2_with fail
  refine cp.mono ?_
  rintro e w1 ⟨x, rfl, hx, hc⟩
  go_wp2
  go_ret
  exact ⟨_, rfl, hc⟩
set_option maxRecDepth 100000 in
set_option maxHeartbeats 8000000 in
theorem among_s (g M : Nat) (hM : M ≤ 1000000) (w0 W : World) (hC : Cp w0 W W g M) (A : Option Addr) (c : Nat) (l : List Int) (hr : Kd.C (Kd.int .i64) W A l.length l) (hl : 1 ≤ l.length) (hl2 : l.length ≤ 100) (hf : ∀ ad, A = some ad → 0 < l.length → ad.block ≠ g) : Calls Tryd.prog 34 #[.pointer (some ⟨g, 0, none⟩), .slice A l.length c] W fun e w' => ∃ r : Int, e = .returned (.int .i64 r) ∧ Cp w0 W w' g (M + 2) := by
  have cp := pick_s g M hM w0 W hC (l.length : Int) (by omega) (by omega)
  have HR := Aside0.mk hr
  have HF := Aside0.mk hf
  clear hC hr hf
  go_enter Tryd.func34, Tryd.ntmps34
  go_wp2_with fail
  refine cp.mono ?_
  rintro e w1 ⟨x, rfl, hx, hc⟩
  obtain ⟨ad, e, hy⟩ := (Kd.reads_of_C (d := (0 : Int)) (Kd.C_keep 0 HR.out hc.keep HF.out)).at_ x hx.1 hx.2
  subst e
  have p1 := hx.1
  have p2 := hx.2
  go_wp2
  go_ret
  exact ⟨_, rfl, hc⟩
set_option maxRecDepth 100000 in
set_option maxHeartbeats 8000000 in
theorem code3_s (g M : Nat) (hM : M ≤ 900000) (w0 W : World) (hC : Cp w0 W W g M) : Calls Tryd.prog 19 #[.pointer (some ⟨g, 0, none⟩)] W fun e w' => ∃ r : Int, e = .returned (.int .i64 r) ∧ Cp w0 W w' g (M + 4) := by
  have co := one_s g M (by omega) w0 W hC 30 (by omega) (by omega)
  have cp := fun n w1 (h : Cp w0 W w1 g (M + 2)) => pick_s g (M + 2) (by omega) w0 w1 (Cp.start h.cu h.bel) n
  clear hC
  go_enter Tryd.func19, Tryd.ntmps19
  go_wp2_with fail
  refine co.mono ?_
  rintro e w1 ⟨b, rfl, hc⟩
  cases b with
  | true =>
    go_wp2_with fail
    refine (cp 6 w1 hc (by omega) (by omega)).mono ?_
    rintro e w2 ⟨x, rfl, hx, hc2⟩
    go_wp2
    go_ret
    exact ⟨_, rfl, hc.trans hc2⟩
  | false =>
    go_wp2_with fail
    refine (cp 3 w1 hc (by omega) (by omega)).mono ?_
    rintro e w2 ⟨x, rfl, hx, hc2⟩
    go_wp2
    go_ret
    exact ⟨_, rfl, hc.trans hc2⟩
set_option maxRecDepth 100000 in
set_option maxHeartbeats 8000000 in
theorem point_s (g M : Nat) (hM : M ≤ 900000) (w0 W : World) (hC : Cp w0 W W g M) : Calls Tryd.prog 32 #[.pointer (some ⟨g, 0, none⟩)] W fun e w' => ∃ r : Int, e = .returned (.int .i64 r) ∧ Cp w0 W w' g (M + 4) := by
  have co := pick_s g M (by omega) w0 W hC 5 (by omega) (by omega)
  have cp := fun n w1 (h : Cp w0 W w1 g (M + 2)) => pick_s g (M + 2) (by omega) w0 w1 (Cp.start h.cu h.bel) n
  have ca := fun w1 (h : Cu w0 w1 g (M + 2)) (hb : Below w0.heap.size w0 w1) => among_s g (M + 2) (by omega) w0 w1 (Cp.start h hb)
  clear hC
  go_enter Tryd.func32, Tryd.ntmps32
  go_wp2_with fail
  refine co.mono ?_
  rintro e w1 ⟨x, rfl, hx, hc⟩
  by_cases x0 : x = 0
  · subst x0
    go_wp2_with fail
    have hb := Cp.below hc (below_alloc (Below.refl w1.heap.size w1) (.cells #[.int .i64 0, .int .i64 127, .int .i64 128, .int .i64 2047, .int .i64 2048, .int .i64 65535, .int .i64 65536, .int .i64 1114111, .int .i64 55295, .int .i64 57344] 3))
    refine (ca _ hb.cu hb.bel (some ⟨w1.heap.size, 0, none⟩) 10 [0, 127, 128, 2047, 2048, 65535, 65536, 1114111, 55295, 57344] (lit_C [0, 127, 128, 2047, 2048, 65535, 65536, 1114111, 55295, 57344] w1) (by decide) (by decide) (fun ad h _ => by cases h; have := hc.cu.lt; simp only; omega)).mono ?_
    rintro e w2 ⟨x, rfl, hc2⟩
    go_wp2
    go_ret
    exact ⟨_, rfl, hb.trans hc2⟩
  · have y0 : (x == 0) = false := beq_eq_false_iff_ne.2 x0
    by_cases x1 : x = 1
    · subst x1
      go_wp2_with fail
      refine (cp 128 w1 hc (by omega) (by omega)).mono ?_
      rintro e w2 ⟨x, rfl, hx, hc2⟩
      go_wp2
      go_ret
      exact ⟨_, rfl, hc.trans hc2⟩
    · have y1 : (x == 1) = false := beq_eq_false_iff_ne.2 x1
      by_cases x2 : x = 2
      · subst x2
        go_wp2_with fail
        refine (cp 1114112 w1 hc (by omega) (by omega)).mono ?_
        rintro e w2 ⟨x, rfl, hx, hc2⟩
        go_wp2
        go_ret
        exact ⟨_, rfl, hc.trans hc2⟩
      · have y2 : (x == 2) = false := beq_eq_false_iff_ne.2 x2
        go_wp2_with fail
        refine (cp 26 w1 hc (by omega) (by omega)).mono ?_
        rintro e w2 ⟨x, rfl, hx, hc2⟩
        go_wp2
        go_ret
        exact ⟨_, rfl, hc.trans hc2⟩
end Go.Proofs.YtchjmkofdiejhaaDoor.OwnCu
namespace Go.Proofs.YtchjmkofdiejhaaDoor.OwnCuP
open Go Go.RowKit Go.Proofs.YtchjmkofdiejhaaDoorW.PrintWords Go.Proofs.YtchjmkofdiejhaaDoorW.PrintLast Go.Proofs.YtchjmkofdiejhaaDoorW.PrintMore Go.Proofs.YtchjmkofdiejhaaDoor.OwnIs Go.Proofs.YtchjmkofdiejhaaDoor.OwnCu
set_option linter.unusedVariables false
set_option linter.unusedSimpArgs false
theorem l1In_c (a b c : Int) (w : World) : Calls Tryd.prog 33 #[.int .i64 a, .int .i64 b, .int .i64 c] w fun e w' => ∃ d : Bool, e = .returned (.bool d) ∧ Below w.heap.size w w' := by
  refine (Pl2Code.spec_l1In.calls a b c (decide (b ≤ a ∧ a ≤ c)) w ?_).mono fun e w' h => ⟨_, h.1, h.2.below⟩
  unfold Pl2Code.spec_l1In.f
  by_cases h : b ≤ a <;> simp [h]
section
variable {ops : Array Oper} {rest : List Oper} {o : Oper} {a : Act} {Q : Exit → Act → World → Prop}
theorem app_int {B : Nat} {W : World} {v : Value} {xs : List Int} (HO : Kd.R dI 3 W B (fun k => B ≤ k) v xs) (hB : B ≤ W.heap.size) (y : Int) (hl : xs.length ≤ 1048576) (hgd : o.guard = none) (s x : Operand) (ho : o.op = .call { callee := .builtin .append, args := #[s, x], argTypes := #[23, 23] })
    (hs : a.eval s = v) (b : Nat) (hx : a.eval x = .slice (some ⟨b, 0, none⟩) 1 1) (hb : b = W.heap.size)
    (K : ∀ v1 w1, Kd.R dI 3 w1 B (fun k => B ≤ k) v1 (xs ++ [y]) → W.grownBy w1 v.ownBlock → wpList Tryd.prog ops Q rest (a.put o.dst v1) w1) : wpList Tryd.prog ops Q (o :: rest) a (W.alloc (.cells #[.int .i64 y] 3)) := by
  subst hb
  exact Kd.R_append dI (w0 := W) B hgd s x 23 3 (.int .i64 0) 8 ho Tryd.underlying23 info_int rfl (by decide) (by decide) v xs y [.int .i64 y] (fun k => B ≤ k) (fun _ => False) hs hx rfl (fun _ hk => hk.elim) (fun k hk => Nat.le_trans hB hk) HO ⟨rfl, rfl, rfl, Nat.le_refl _, fun _ _ => rfl⟩ hB (by omega) (fun v1 w1 h1 h2 h3 _ => K v1 w1 h1 h3)
end
theorem Cp.grown {w0 W W1 w' : World} {g M : Nat} {v : Value} {l : List Int} (h : Cp w0 W W1 g M) (hg : W1.grownBy w' v.ownBlock) (hR : Kd.R dI 3 W1 W.heap.size (fun k => W.heap.size ≤ k) v l) (hlt : g < W.heap.size) (h0 : w0.heap.size ≤ W.heap.size) : Cp w0 W w' g M := by
  have hb := Kd.R_base hR
  refine ⟨h.cu.grown hg (fun e => by have := hb g e.symm; omega), h.bel.grown hg h.bel.size (fun k hk => Nat.le_trans h0 (hb k hk)), ?_⟩
  have hk := KeepBut.of_grown hg g
  cases e : v.ownBlock with
  | none => rw [e] at hk; exact h.keep.trans hk (.inl rfl)
  | some k => rw [e] at hk; exact h.keep.trans hk (.inr ⟨k, rfl, hb k e⟩)
theorem R_kp {W W1 w' : World} {g : Nat} {v : Value} {l : List Int} (hR : Kd.R dI 3 W1 W.heap.size (fun k => W.heap.size ≤ k) v l) (hk : KeepBut W1 w' g none) (hlt : g < W.heap.size) : Kd.R dI 3 w' W.heap.size (fun k => W.heap.size ≤ k) v l := Kd.R_keep hR hk (fun k h e => by omega)
set_option maxRecDepth 100000 in
set_option maxHeartbeats 20000000 in
theorem points_s (g M : Nat) (hM : M ≤ 500000) (w0 W : World) (hC : Cp w0 W W g M) : Calls Tryd.prog 18 #[.pointer (some ⟨g, 0, none⟩)] W fun e w' => ∃ (A : Option Addr) (c : Nat) (l : List Int), e = .returned (.slice A l.length c) ∧ l.length ≤ 400 ∧ Kd.R dI 3 w' W.heap.size (fun k => W.heap.size ≤ k) (.slice A l.length c) l ∧ Cp w0 W w' g (M + 4000) := by
  have HM := Aside0.mk hM
  have HLT := Aside0.mk hC.cu.lt
  have H0 := Aside0.mk hC.bel.size
  have cp1 := pick_s g M (by omega) w0 W hC 9 (by omega) (by omega)
  clear hC hM
  go_enter Tryd.func18, Tryd.ntmps18
  go_wp2_with fail
  refine cp1.mono ?_
  rintro e w1 ⟨n1, rfl, hn1, hc1⟩
  have HN1 := Aside0.mk hn1
  clear cp1 hn1
  go_wp2_with fail
  refine (one_s g (M + 2) (by have := HM.out; omega) w0 w1 (Cp.start hc1.cu hc1.bel) 30 (by omega) (by omega)).mono ?_
  rintro e w2 ⟨b, rfl, hc2⟩
  have HC2 := Aside0.mk (hc1.trans hc2)
  clear hc1 hc2
  go_upto_if 10 with fail
  go_cut [4] (fun v4 wx => ∃ n : Nat, v4 = .int .i64 n ∧ Aside0 (n ≤ 301) ∧ Aside0 (Cp w0 W wx g (M + 6)))
  case first =>
    cases b with
    | true =>
      go_wp2_with fail
      refine (pick_s g (M + 2 + 2) (by have := HM.out; omega) w0 w2 (Cp.start HC2.out.cu HC2.out.bel) 2 (by omega) (by omega)).mono ?_
      rintro e w3 ⟨x, rfl, hx, hc3⟩
      have HX := Aside0.mk hx
      have ew : IntKind.i64.wrap (300 + x) = 300 + x := by rw [IntKind.wrap_i64]; omega
      clear hx
      go_wp2
      go_meet
      case rel => exact ⟨(300 + x).toNat, by rw [show (((300 + x).toNat : Nat) : Int) = 300 + x from by have := HX.out; omega], ⟨by have := HX.out; omega⟩, ⟨HC2.out.trans hc3⟩⟩
    | false =>
      go_wp2
      go_meet
      case rel => exact ⟨n1.toNat, by rw [show ((n1.toNat : Nat) : Int) = n1 from by have := HN1.out; omega], ⟨by have := HN1.out; omega⟩, ⟨HC2.out.cu.up (by omega), HC2.out.bel, HC2.out.keep⟩⟩
  case rest =>
    clear HN1 HC2
    obtain ⟨n, rfl, HN, HC3⟩ := hcut
    go_wp2_with fail
    refine (one_s g (M + 6) (by have := HM.out; omega) w0 wc (Cp.start HC3.out.cu HC3.out.bel) 3 (by omega) (by omega)).mono ?_
    rintro e w4 ⟨latin, rfl, hc4⟩
    have HC4 := Aside0.mk (HC3.out.trans hc4)
    clear hc4 HC3
    go_wp2
    go_loopg [3, 4] n (fun kq v3 v4 w' => ∃ (j : Nat) (l : List Int), j + kq = n ∧ v4 = .int .i64 kq ∧ Aside0 (l.length = j) ∧ Aside0 (Kd.R dI 3 w' W.heap.size (fun k => W.heap.size ≤ k) v3 l) ∧ Aside0 (Cp w0 W w' g (M + 8 + 6 * j)))
    case atStart => exact ⟨0, [], by omega, rfl, ⟨rfl⟩, ⟨Kd.R_nil _ _ _ _ _⟩, HC4⟩
    case round =>
      clear HC4
      obtain ⟨j, l, hj, rfl, HL, HR, HCj⟩ := hrel
      obtain ⟨A, c, rfl⟩ := Kd.R_slice HR.out
      cases gk with
      | zero =>
        have hd : decide ((0 : Int) < ((0 : Nat) : Int)) = false := decide_eq_false (by omega)
        go_wp2_with fail
        refine (one_s g (M + 8 + 6 * j) (by have := HM.out; have := HN.out; omega) w0 wr (Cp.start HCj.out.cu HCj.out.bel) 30 (by omega) (by omega)).mono ?_
        rintro e w5 ⟨b, rfl, hc5⟩
        have HC5 := Aside0.mk (HCj.out.trans hc5)
        have HR5 := Aside0.mk (R_kp HR.out hc5.keep HLT.out)
        clear hc5 HCj HR
        cases b with
        | false =>
          go_wp2
          go_ret
          exact ⟨_, _, l, rfl, by have := HL.out; have := HN.out; omega, HR5.out, ⟨HC5.out.cu.up (by have := HN.out; omega), HC5.out.bel, HC5.out.keep⟩⟩
        | true =>
          go_wp2_with fail
          have hb := Cp.below HC5.out (below_alloc (Below.refl w5.heap.size w5) (.cells #[.int .i64 (-1), .int .i64 55296, .int .i64 57343, .int .i64 1114112] 3))
          have hR6 := Kd.R_alloc HR5.out (.cells #[.int .i64 (-1), .int .i64 55296, .int .i64 57343, .int .i64 1114112] 3)
          refine (among_s g _ (by have := HM.out; have := HN.out; omega) w0 _ (Cp.start hb.cu hb.bel) (some ⟨w5.heap.size, 0, none⟩) 4 [-1, 55296, 57343, 1114112] (lit_C [-1, 55296, 57343, 1114112] w5) (by decide) (by decide) (fun ad h _ => by cases h; have := HC5.out.cu.lt; simp only; omega)).mono ?_
          rintro e w6 ⟨x, rfl, hc6⟩
          have HC6 := Aside0.mk (hb.trans hc6)
          have HR6 := Aside0.mk (R_kp hR6 hc6.keep HLT.out)
          clear hb hR6 hc6
          have hsz := HC6.out.keep.1
          go_wp2_with (at_builtin; refine app_int HR6.out hsz x (by have := HL.out; have := HN.out; omega) rfl _ _ rfl rfl _ rfl (by simp) ?_; intro v1 u1 R1 G1; obtain ⟨A1, d1, rfl⟩ := Kd.R_slice R1; have HR1 := Aside0.mk R1; have HG1 := Aside0.mk G1; clear R1 G1)
          go_ret
          have hc := Cp.grown HC6.out HG1.out HR6.out HLT.out H0.out
          exact ⟨_, _, l ++ [x], by first | rfl | simp, by rw [List.length_append]; have := HL.out; have := HN.out; simp; omega, HR1.out, ⟨hc.cu.up (by have := HN.out; omega), hc.bel, hc.keep⟩⟩
      | succ k1 =>
        have hd : decide ((0 : Int) < ((k1 + 1 : Nat) : Int)) = true := decide_eq_true (by omega)
        have ew : IntKind.i64.wrap (((k1 + 1 : Nat) : Int) - 1) = (k1 : Int) := by rw [IntKind.wrap_i64]; have := HN.out; omega
        go_wp2_with fail
        refine (point_s g (M + 8 + 6 * j) (by have := HM.out; have := HN.out; omega) w0 wr (Cp.start HCj.out.cu HCj.out.bel)).mono ?_
        rintro e w5 ⟨p, rfl, hc5⟩
        have HC5 := Aside0.mk (HCj.out.trans hc5)
        have HR5 := Aside0.mk (R_kp HR.out hc5.keep HLT.out)
        clear hc5 HCj HR
        go_upto_if 22 with fail
        go_cut [6] (fun v6 wx => ∃ p : Int, v6 = .int .i64 p ∧ Aside0 (Kd.R dI 3 wx W.heap.size (fun k => W.heap.size ≤ k) (.slice A l.length c) l) ∧ Aside0 (Cp w0 W wx g (M + 8 + 6 * j + 4)))
        case first =>
          cases latin with
          | true =>
            go_wp2
            go_meet
            case rel => exact ⟨_, rfl, HR5, HC5⟩
          | false =>
            go_wp2
            go_meet
            case rel => exact ⟨_, rfl, HR5, HC5⟩
        case rest =>
          clear HR5 HC5
          obtain ⟨p2, rfl, HR6, HC6⟩ := hcut
          go_upto_region 11 with fail
          go_cut [31] (fun v31 wx => ∃ b : Bool, v31 = .bool b ∧ Aside0 (Kd.R dI 3 wx W.heap.size (fun k => W.heap.size ≤ k) (.slice A l.length c) l) ∧ Aside0 (Cp w0 W wx g (M + 8 + 6 * j + 6)))
          case first =>
            go_wp2_with fail
            refine (l1In_c p2 55296 57343 _).mono ?_
            rintro e w7 ⟨d, rfl, hb7⟩
            have HC7 := Aside0.mk (Cp.below HC6.out hb7)
            have HR7 := Aside0.mk (Kd.R_below HR6.out hb7)
            clear hb7 HC6 HR6
            cases d with
            | true =>
              go_wp2_with fail
              refine (one_s g (M + 8 + 6 * j + 4) (by have := HM.out; have := HN.out; omega) w0 w7 (Cp.start HC7.out.cu HC7.out.bel) 4 (by omega) (by omega)).mono ?_
              rintro e w8 ⟨b, rfl, hc8⟩
              have HC8 := Aside0.mk (HC7.out.trans hc8)
              have HR8 := Aside0.mk (R_kp HR7.out hc8.keep HLT.out)
              clear hc8
              go_wp2
              go_meet
              case rel => exact ⟨_, rfl, HR8, HC8⟩
            | false =>
              go_wp2
              go_meet
              case rel => exact ⟨_, rfl, HR7, ⟨HC7.out.cu.up (by omega), HC7.out.bel, HC7.out.keep⟩⟩
          case rest =>
            clear HR6 HC6
            obtain ⟨b, rfl, HR8, HC8⟩ := hcut
            go_upto_if 31 with fail
            go_cut [6] (fun v6 wx => ∃ p : Int, v6 = .int .i64 p ∧ Aside0 (Kd.R dI 3 wx W.heap.size (fun k => W.heap.size ≤ k) (.slice A l.length c) l) ∧ Aside0 (Cp w0 W wx g (M + 8 + 6 * j + 6)))
            case first =>
              cases b with
              | true =>
                go_wp2
                go_meet
                case rel => exact ⟨_, rfl, HR8, HC8⟩
              | false =>
                go_wp2
                go_meet
                case rel => exact ⟨_, rfl, HR8, HC8⟩
            case rest =>
              clear HR8 HC8
              obtain ⟨p3, rfl, HR9, HC9⟩ := hcut
              have hsz := HC9.out.keep.1
              go_wp2_with (at_builtin; refine app_int HR9.out hsz p3 (by have := HL.out; have := HN.out; omega) rfl _ _ rfl rfl _ rfl (by simp) ?_; intro v1 u1 R1 G1; obtain ⟨A1, d1, rfl⟩ := Kd.R_slice R1; have HR1 := Aside0.mk R1; have HG1 := Aside0.mk G1; clear R1 G1)
              go_roundg k1
              case measure => omega
              case rel => exact ⟨j + 1, l ++ [p3], by omega, by first | rfl | rw [Pl.w64 (by omega) (by have := HN.out; omega)], ⟨by rw [List.length_append, HL.out]; rfl⟩, ⟨by first | exact HR1.out | (rw [List.length_append] at *; exact HR1.out)⟩, ⟨by have hc := Cp.grown HC9.out HG1.out HR9.out HLT.out H0.out; exact ⟨hc.cu.up (by omega), hc.bel, hc.keep⟩⟩⟩
end Go.Proofs.YtchjmkofdiejhaaDoor.OwnCuP
namespace Go.Proofs.YtchjmkofdiejhaaDoor.OwnFpL
open Go Go.RowKit Go.Proofs.YtchjmkofdiejhaaDoorW.PrintWords Go.Proofs.YtchjmkofdiejhaaDoorW.PrintLast Go.Proofs.YtchjmkofdiejhaaDoorW.PrintMore Go.Proofs.YtchjmkofdiejhaaDoor.OwnIs Go.Proofs.YtchjmkofdiejhaaDoor.OwnCu Go.Proofs.YtchjmkofdiejhaaDoor.OwnCuP Go.Proofs.YtchjmkofdiejhaaDoor.OwnDcI
set_option linter.unusedVariables false
set_option linter.unusedSimpArgs false
theorem wf_u8 {a : Int} (h : (Lit.int .u8 a).wf = true) : 0 ≤ a ∧ a < 256 := by
  simp [Lit.wf, IntKind.min, IntKind.max, IntKind.signed, IntKind.bits] at h; omega
theorem same_told (l : List Int) (hl : l.length ≤ 1048576) : Ev (fun k => PsameInts.laws_sameInts.f k l l) true := by
  have key : ∀ (m i : Nat), i + m = l.length → Ev (fun k => PsameInts.laws_sameInts.l0 k l l l.length i) true := by
    intro m
    induction m with
    | zero =>
      intro i hi
      refine Pl.ev_const 1 fun k => ?_
      simp only [PsameInts.laws_sameInts.l0]
      rw [if_neg (by omega)]
    | succ m ih =>
      intro i hi
      refine Pl.ev_skip 1 (fun k => ?_) (ih (i + 1) (by omega))
      simp only [PsameInts.laws_sameInts.l0]
      rw [if_pos (by omega), if_pos (by omega), if_pos (by omega), if_pos (by omega), if_pos (by first | rfl | trivial), Pl.w64s i l.length (by omega) (by omega)]
  refine Ev.congr (fun k => ?_) (key l.length 0 (by omega))
  unfold PsameInts.laws_sameInts.f
  rw [if_pos rfl]
  rfl
theorem same_c (A A' : Option Addr) (c c' : Nat) (l : List Int) (w : World) (hl : l.length ≤ 1048576) (hr : Kd.C (Kd.int .i64) w A l.length l) (hc : l.length ≤ c) (hr' : Kd.C (Kd.int .i64) w A' l.length l) (hc' : l.length ≤ c') : Calls Tryd.prog 10 #[.slice A l.length c, .slice A' l.length c'] w fun e w' => e = .returned (.bool true) ∧ Below w.heap.size w w' := by
  obtain ⟨k, hk⟩ := (same_told l hl).rounds
  exact (PsameInts.laws_sameInts.calls k A c l A' c' l true w hr hc hr' hc' hk).mono (fun e w' h => ⟨h.1, h.2.below⟩)
theorem good_of {l : List Int} (h : OwnText.goodPts l = true) : l.all OwnDcP.goodB = true ∧ l.length ≤ 300 := by
  unfold OwnText.goodPts at h
  rw [Bool.and_eq_true, decide_eq_true_eq] at h
  refine ⟨?_, h.2⟩
  have h1 := h.1
  rw [List.all_eq_true] at *
  intro p hp
  have := h1 p hp
  unfold OwnText.goodB at this
  rw [decide_eq_true_eq] at this
  exact OwnDcP.good_dec.2 (by omega)
theorem pl1 (l : List Int) (k : Int) (h : (OwnText.encM l k).2 = true) : OwnDcK.deC (OwnText.encM l k).1 k = (l, true) := by
  unfold OwnText.encM at *
  by_cases c : OwnText.goodPts l = true ∧ 1 ≤ k ∧ k ≤ 3 ∧ (k = 3 → OwnText.narrowB l = true)
  · rw [if_pos c]
    unfold OwnDcK.deC
    rw [if_pos ⟨c.2.1, c.2.2.1⟩]
    exact OwnRt.rt1 k ⟨c.2.1, c.2.2.1⟩ l (good_of c.1).1 (good_of c.1).2 c.2.2.2
  · rw [if_neg c] at h; cases h
theorem enc_size (l : List Int) (k : Int) (hl : l.length ≤ 400) : (OwnText.encM l k).1.size ≤ 1048576 := by
  unfold OwnText.encM
  split
  · show (strOfNums _).size ≤ _
    rw [Pl.strOfNums_size]
    have := OwnText.encL_len k l
    omega
  · exact Nat.zero_le _
theorem cmp_size (l : List Int) (hl : l.length ≤ 400) : (OwnTextF.cmpB l).1.size ≤ 1048576 := by
  unfold OwnTextF.cmpB
  split
  · split
    · show (strOfNums _).size ≤ _
      rw [Pl.strOfNums_size]
      have := OwnText.encL_len 3 l
      omega
    · show (strOfNums _).size ≤ _
      rw [Pl.strOfNums_size]
      have := OwnText.encL_len 2 l
      omega
  · exact Nat.zero_le _
theorem pl2 (l : List Int) : ((OwnTextF.cmpB l).2.2 = true → OwnCpK.cpM (OwnTextF.cmpB l).1 (OwnTextF.cmpB l).2.1 = (l, true)) ∧ ((OwnTextF.cmpB l).2.2 = false → (OwnTextF.cmpB l).1 = ⟨#[]⟩) := by
  unfold OwnTextF.cmpB
  by_cases g : OwnText.goodPts l = true
  · rw [if_pos g]
    by_cases n : OwnText.narrowB l = true
    · rw [if_pos n]
      refine ⟨fun _ => ?_, fun h => (by cases h)⟩
      have h := OwnRt.rt1 3 (by decide) l (good_of g).1 (good_of g).2 (fun _ => n)
      unfold OwnCpK.cpM
      simp only [Bool.false_eq_true, if_false, false_and, or_false]
      rw [h, if_neg (by simp)]
    · rw [if_neg n]
      refine ⟨fun _ => ?_, fun h => (by cases h)⟩
      have h := OwnRt.rt1 2 (by decide) l (good_of g).1 (good_of g).2 (fun h => by omega)
      unfold OwnCpK.cpM
      simp only [if_true, true_and]
      rw [h, if_neg (by simp [n])]
  · rw [if_neg g]
    exact ⟨fun h => (by cases h), fun _ => rfl⟩
set_option maxRecDepth 100000 in
set_option maxHeartbeats 8000000 in
theorem draw_s (A : Option Addr) (c : Nat) (code : List Int) (w : World) (hr : Kd.C (Kd.int .u8) w A code.length code) (hl : code.length ≤ 1048576) (hb : ∀ x ∈ code, 0 ≤ x ∧ x < 256) : Calls Tryd.prog 5 #[.slice A code.length c] w fun e w' => ∃ (A1 : Option Addr) (c1 : Nat) (l : List Int) (k : Int), e = .returned (.tuple #[.slice A1 l.length c1, .int .i64 k]) ∧ l.length ≤ 400 ∧ Kd.C (Kd.int .i64) w' A1 l.length l ∧ l.length ≤ c1 ∧ Below w.heap.size w w' := by
  obtain ⟨X, hX⟩ : ∃ X, X = w.alloc (.cells #[.slice A code.length c, .int .i64 0, .int .u64 0] 44) := ⟨_, rfl⟩
  have hcu : Cu w X w.heap.size 0 := by
    subst hX
    exact ⟨A, c, code, 0, 0, heap_alloc_new w _, Nat.le_refl _, hr, hl, hb, by omega, by omega⟩
  have hbX : Below w.heap.size w X := by subst hX; exact below_alloc (Below.refl _ _) _
  have HC := Aside0.mk (Cp.start hcu hbX)
  have HLT := Aside0.mk hcu.lt
  have hs := hbX.size
  clear hr hl hb hcu hbX
  go_enter Tryd.func5, Tryd.ntmps5
  go_wp2_with fail
  rw [← hX]
  refine (points_s w.heap.size 0 (by omega) w X HC.out).mono ?_
  rintro e w1 ⟨A1, c1, l, rfl, hl1, hR1, hc1⟩
  have HR1 := Aside0.mk hR1
  have HL1 := Aside0.mk hl1
  clear hR1 hl1
  go_wp2_with fail
  refine (code3_s w.heap.size (0 + 4000) (by omega) w w1 (Cp.start hc1.cu hc1.bel)).mono ?_
  rintro e w2 ⟨k, rfl, hc2⟩
  have HR2 := Aside0.mk (Kd.R_reads' (R_kp HR1.out hc2.keep HLT.out))
  clear HR1 hc1
  go_wp2
  go_ret2
  exact ⟨_, _, l, k, rfl, HL1.out, HR2.out.2.2, HR2.out.2.1, hc2.bel⟩
set_option maxRecDepth 100000 in
set_option maxHeartbeats 16000000 in
theorem law_FnPoints (A : Option Addr) (c : Nat) (code : List Int) (w : World) (hr : Kd.C (Kd.int .u8) w A code.length code) (hb : ∀ x ∈ code, 0 ≤ x ∧ x < 256) (hl0 : code.length ≤ 9223372036854775807) (hT : Tabs w) : Calls Tryd.prog 3 #[.slice A code.length c] w fun e w' => e = .returned (.bool true) ∧ Below w.heap.size w w' := by
  have HT := Aside0.mk hT
  clear hT
  by_cases z : 1048576 < code.length
  · have d1 : decide ((1048576 : Int) < (code.length : Int)) = true := decide_eq_true (by omega)
    clear hr hb hl0
    go_enter Tryd.func3, Tryd.ntmps3
    go_wp2
    go_ret
    exact ⟨rfl, by with_reducible repeat first | exact Below.refl _ _ | refine below_alloc ?_ _ | refine below_drew1 ?_ | refine pw_below_drewN ?_ _⟩
  · have d1 : decide ((1048576 : Int) < (code.length : Int)) = false := decide_eq_false (by omega)
    have cd := draw_s A c code w hr (by omega) hb
    clear hr hb hl0 z
    go_enter Tryd.func3, Tryd.ntmps3
    go_wp2_with fail
    refine cd.mono ?_
    rintro e w1 ⟨A1, c1, l, k, rfl, hl, hC, hc, hB⟩
    have HL := Aside0.mk hl
    have HC := Aside0.mk hC
    have Hc := Aside0.mk hc
    have HB := Aside0.mk hB
    clear hl hC hc hB cd d1
    have P1 := Aside0.mk (pl1 l k)
    have P2 := Aside0.mk (pl2 l)
    have HS := Aside0.mk (enc_size l k HL.out)
    have HZ := Aside0.mk (cmp_size l HL.out)
    have ce := fun w h => OwnText.encode_i A1 c1 l k w h Hc.out (by have := HL.out; omega)
    have cs := fun w h => OwnTextE.spec_EncodePoints A1 c1 l k w h Hc.out (by have := HL.out; omega)
    have cz := fun w h => OwnTextF.impl_SizeAs A1 c1 l k w h Hc.out (by have := HL.out; omega)
    have cm := fun w h => OwnTextF.impl_CompactBytes A1 c1 l w h Hc.out (by have := HL.out; omega)
    have cn := fun w h => OwnTextF.spec_CompactBytes A1 c1 l w h Hc.out (by have := HL.out; omega)
    have cp := fun s wide hs w h => OwnCpK.cp_i wide s hs w h
    have cd := fun s hs w h => OwnDcK.dp_i k s hs w h
    generalize OwnText.encM l k = r at *
    obtain ⟨s, ok⟩ := r
    generalize OwnTextF.cmpB l = q at *
    obtain ⟨b, wide, one⟩ := q
    simp only at P1 P2 HS HZ ce cs cz cm cn
    go_wp2_with fail
    refine (ce w1 HC.out).mono ?_
    rintro e w2 ⟨rfl, hb2⟩
    have HC2 := Aside0.mk (Kd.C_below HC.out hb2)
    have HB2 := Aside0.mk (below_step HB.out hb2)
    clear hb2 HC HB ce
    go_wp2_with fail
    refine (cs w2 HC2.out).mono ?_
    rintro e w3 ⟨rfl, hb3⟩
    have HC3 := Aside0.mk (Kd.C_below HC2.out hb3)
    have HB3 := Aside0.mk (below_step HB2.out hb3)
    clear hb3 HC2 HB2 cs
    go_upto_if 49 with fail
    go_cut [] (fun wx => Aside0 (Kd.C (Kd.int .i64) wx A1 l.length l) ∧ Aside0 (Below w.heap.size w wx))
    case first =>
      cases ok with
      | false =>
        go_wp2
        go_meet
        case rel => exact ⟨HC3, HB3⟩
      | true =>
        have hd := P1.out rfl
        have c4 := cd s HS.out w3 (Utf8Tabs_below HT.out HB3.out)
        rw [hd] at c4
        go_wp2_with fail
        refine c4.mono ?_
        rintro e w4 ⟨A4, c4', rfl, hR4, hb4⟩
        have HC4 := Aside0.mk (Kd.C_below HC3.out hb4)
        have HB4 := Aside0.mk (below_step HB3.out hb4)
        have HR4 := Aside0.mk (Kd.R_reads' hR4)
        clear hR4 hb4 HC3 HB3
        simp only at HR4
        go_wp2_with fail
        refine (cz w4 HC4.out).mono ?_
        rintro e w5 ⟨rfl, hb5⟩
        have HC5 := Aside0.mk (Kd.C_below HC4.out hb5)
        have HB5 := Aside0.mk (below_step HB4.out hb5)
        have HR5 := Aside0.mk (Kd.C_below HR4.out.2.2 hb5)
        clear hb5 HC4 HB4
        go_wp2_with fail
        refine (same_c A1 A4 c1 c4' l w5 (by have := HL.out; omega) HC5.out Hc.out HR5.out HR4.out.2.1).mono ?_
        rintro e w6 ⟨rfl, hb6⟩
        have HC6 := Aside0.mk (Kd.C_below HC5.out hb6)
        have HB6 := Aside0.mk (below_step HB5.out hb6)
        clear hb6
        go_wp2
        go_meet
        case rel => exact ⟨HC6, HB6⟩
    case rest =>
      clear HC3 HB3
      obtain ⟨HC7, HB7⟩ := hcut
      go_wp2_with fail
      refine (cm wc HC7.out).mono ?_
      rintro e w8 ⟨rfl, hb8⟩
      have HC8 := Aside0.mk (Kd.C_below HC7.out hb8)
      have HB8 := Aside0.mk (below_step HB7.out hb8)
      clear hb8 HC7 HB7
      go_wp2_with fail
      refine (cn w8 HC8.out).mono ?_
      rintro e w9 ⟨rfl, hb9⟩
      have HC9 := Aside0.mk (Kd.C_below HC8.out hb9)
      have HB9 := Aside0.mk (below_step HB8.out hb9)
      clear hb9 HC8 HB8
      cases one with
      | false =>
        have e1 := P2.out.2 rfl
        subst e1
        go_wp2
        go_ret
        exact ⟨rfl, HB9.out⟩
      | true =>
        have hd := P2.out.1 rfl
        have c10 := cp b wide HZ.out w9 (Utf8Tabs_below HT.out HB9.out)
        rw [hd] at c10
        go_wp2_with fail
        refine c10.mono ?_
        rintro e w10 ⟨A10, c10', rfl, hR10, hb10⟩
        have HC10 := Aside0.mk (Kd.C_below HC9.out hb10)
        have HB10 := Aside0.mk (below_step HB9.out hb10)
        have HR10 := Aside0.mk (Kd.R_reads' hR10)
        clear hR10 hb10
        simp only at HR10
        go_wp2_with fail
        refine (same_c A1 A10 c1 c10' l w10 (by have := HL.out; omega) HC10.out Hc.out HR10.out.2.2 HR10.out.2.1).mono ?_
        rintro e w11 ⟨rfl, hb11⟩
        have HB11 := Aside0.mk (below_step HB10.out hb11)
        clear hb11
        go_wp2
        go_ret
        exact ⟨rfl, HB11.out⟩
end Go.Proofs.YtchjmkofdiejhaaDoor.OwnFpL
