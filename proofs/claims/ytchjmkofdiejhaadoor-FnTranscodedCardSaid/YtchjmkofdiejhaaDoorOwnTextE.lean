/- Texts of points as bytes, the reference's side. -/
import Derived.Test.YtchjmkofdiejhaaDoorOwnText
import Derived.Test.YtchjmkofdiejhaaDoorPEncodePointsx1
namespace Go.Proofs.YtchjmkofdiejhaaDoor.OwnTextE
open Go Go.RowKit Go.Proofs.YtchjmkofdiejhaaDoorW.PrintWords Go.Proofs.YtchjmkofdiejhaaDoorW.PrintLast Go.Proofs.YtchjmkofdiejhaaDoorW.PrintMore Go.Proofs.YtchjmkofdiejhaaDoor.OwnBs Go.Proofs.YtchjmkofdiejhaaDoor.OwnText
set_option linter.unusedVariables false
set_option linter.unusedSimpArgs false
theorem or_hi (i : Nat) (a b : Int) (hi : i ≤ 62) (ha : a % 2 ^ i = 0) (a0 : 0 ≤ a) (b0 : 0 ≤ b ∧ b < 2 ^ i) (h : a + b < 9223372036854775808) : bits .or .i64 a b = a + b := by
  rw [Pl.or_comm, Pl.or_join .i64 i (show i ≤ 64 by omega) b a b0.1 b0.2 ha, IntKind.wrap_i64]; omega
def encE (l : List Int) (code : Int) : ByteArray × Bool := if code = 3 ∧ narrowB l = false then (⟨#[]⟩, false) else (strOfNums (encL code l), true)
theorem encM_good {l : List Int} (g : goodPts l = true) (code : Int) (h : 1 ≤ code ∧ code ≤ 3) : encM l code = encE l code := by
  unfold encM encE
  by_cases c : code = 3 ∧ narrowB l = false
  · rw [if_neg (fun h => by have := h.2.2.2 c.1; rw [c.2] at this; cases this), if_pos c]
  · rw [if_pos ⟨g, h.1, h.2, fun h3 => by cases hn : narrowB l with | true => rfl | false => exact absurd ⟨h3, hn⟩ c⟩, if_neg c]
theorem encM_bad {l : List Int} {code : Int} (h : goodPts l = false ∨ code < 1 ∨ 3 < code) : encM l code = (⟨#[]⟩, false) := by
  unfold encM
  rw [if_neg]
  rintro ⟨g, g1, g2, _⟩
  rcases h with h | h | h
  · rw [h] at g; cases g
  · omega
  · omega
section
open PEncodePoints
theorem l1In_told1 (a b c : Int) : spec_l1In.f a b c = some (decide (b ≤ a ∧ a ≤ c)) := by
  unfold spec_l1In.f
  by_cases h : b ≤ a <;> simp [h]
theorem points_spec1 (l : List Int) (hl : l.length ≤ 35184372088832) : Ev (fun k => spec_l2Points.f k l) (goodPts l) := by
  have key : ∀ (m i : Nat), i + m = l.length → Ev (fun k => spec_l2Points.l0 k l l (l.length : Int) (i : Int)) ((l.drop i).all goodB && decide (l.length ≤ 300)) := by
    intro m
    induction m with
    | zero =>
      intro i hi
      refine Pl.ev_const 1 fun k => ?_
      simp only [spec_l2Points.l0]
      rw [if_neg (by omega), List.drop_of_length_le (by omega)]
      simp
      omega
    | succ m ih =>
      intro i hi
      have hil : i < l.length := by omega
      have hn := ih (i + 1) (by omega)
      have step : ∀ k, spec_l2Points.l0 (k + 1) l l (l.length : Int) (i : Int) = if goodB l[i] = true then spec_l2Points.l0 k l l (l.length : Int) ((i + 1 : Nat) : Int) else some false := by
        intro k
        simp only [spec_l2Points.l0]
        rw [if_pos (by omega), if_pos (by omega), if_pos (by omega), Pl.rd_at l i hil, Pl.w64s i l.length (by omega) (by omega)]
        simp only [l1In_told1, Option.bind_some, decide_eq_true_eq]
        unfold goodB
        simp only [decide_eq_true_eq]
        by_cases h1 : 0 ≤ l[i] ∧ l[i] ≤ 1114111
        · by_cases h2 : 55296 ≤ l[i] ∧ l[i] ≤ 57343
          · rw [if_pos h1, if_pos h2, if_neg (by omega)]
          · rw [if_pos h1, if_neg h2, if_pos (by omega)]
        · rw [if_neg h1, if_neg (by omega)]
      by_cases hg : goodB l[i] = true
      · have e : (l.drop i).all goodB = (l.drop (i + 1)).all goodB := by
          rw [drop_all l i hil, hg, Bool.true_and]
        rw [e]
        exact Pl.ev_skip 1 (fun k => by rw [step, if_pos hg]) hn
      · have e : (l.drop i).all goodB = false := by
          rw [drop_all l i hil, Bool.eq_false_iff.2 hg, Bool.false_and]
        rw [e]
        exact Pl.ev_const 1 (fun k => by rw [step, if_neg hg]; rfl)
  have := key l.length 0 (by omega)
  unfold spec_l2Points.f goodPts
  simpa using this
theorem utf8_told1 (p : Int) (h0 : 0 ≤ p) (h1 : p ≤ 1114111) : spec_l2Utf8.f p = some (u8M p) := by
  have a1 : bits .and .i64 p 63 = p % 64 := Pl.and_mask .i64 6 (by decide) p
  have a2 : bits .and .i64 (p / 64) 63 = p / 64 % 64 := Pl.and_mask .i64 6 (by decide) _
  have a3 : bits .and .i64 (p / 4096) 63 = p / 4096 % 64 := Pl.and_mask .i64 6 (by decide) _
  unfold spec_l2Utf8.f u8M
  rw [a1, a2, a3]
  by_cases c1 : p < 128
  · rw [if_pos c1, if_pos c1, show p % 256 = p by omega]
  · rw [if_neg c1, if_neg c1]
    by_cases c2 : p < 2048
    · rw [if_pos c2, if_pos c2, or_hi 6 192 (p / 64) (by omega) (by decide) (by omega) (by omega) (by omega), or_hi 6 128 (p % 64) (by omega) (by decide) (by omega) (by omega) (by omega), show (192 + p / 64) % 256 = 192 + p / 64 by omega, show (128 + p % 64) % 256 = 128 + p % 64 by omega]
    · rw [if_neg c2, if_neg c2]
      by_cases c3 : p < 65536
      · rw [if_pos c3, if_pos c3, or_hi 5 224 (p / 4096) (by omega) (by decide) (by omega) (by omega) (by omega), or_hi 6 128 (p / 64 % 64) (by omega) (by decide) (by omega) (by omega) (by omega), or_hi 6 128 (p % 64) (by omega) (by decide) (by omega) (by omega) (by omega), show (224 + p / 4096) % 256 = 224 + p / 4096 by omega, show (128 + p / 64 % 64) % 256 = 128 + p / 64 % 64 by omega, show (128 + p % 64) % 256 = 128 + p % 64 by omega]
      · rw [if_neg c3, if_neg c3, or_hi 4 240 (p / 262144) (by omega) (by decide) (by omega) (by omega) (by omega), or_hi 6 128 (p / 4096 % 64) (by omega) (by decide) (by omega) (by omega) (by omega), or_hi 6 128 (p / 64 % 64) (by omega) (by decide) (by omega) (by omega) (by omega), or_hi 6 128 (p % 64) (by omega) (by decide) (by omega) (by omega) (by omega), show (240 + p / 262144) % 256 = 240 + p / 262144 by omega, show (128 + p / 4096 % 64) % 256 = 128 + p / 4096 % 64 by omega, show (128 + p / 64 % 64) % 256 = 128 + p / 64 % 64 by omega, show (128 + p % 64) % 256 = 128 + p % 64 by omega]
theorem utf16_told1 (p : Int) (h0 : 0 ≤ p) (h1 : p ≤ 1114111) : spec_l2Utf16.f p = some (u16M p) := by
  unfold spec_l2Utf16.f u16M
  by_cases c1 : p < 65536
  · rw [if_pos c1, if_pos c1, show p / 256 % 256 = p / 256 by omega]
  · rw [if_neg c1, if_neg c1, Pl.w64 (n := p - 65536) (by omega) (by omega), show bits .and .i64 (p - 65536) 1023 = (p - 65536) % 1024 from Pl.and_mask .i64 10 (by decide) _, or_hi 10 55296 ((p - 65536) / 1024) (by omega) (by decide) (by omega) (by omega) (by omega), or_hi 10 56320 ((p - 65536) % 1024) (by omega) (by decide) (by omega) (by omega) (by omega), show (55296 + (p - 65536) / 1024) / 256 % 256 = (55296 + (p - 65536) / 1024) / 256 by omega, show (56320 + (p - 65536) % 1024) / 256 % 256 = (56320 + (p - 65536) % 1024) / 256 by omega]
theorem encode_told1 (l : List Int) (code : Int) (g : goodPts l = true) (hc : 1 ≤ code ∧ code ≤ 3) : Ev (fun k => spec_l2Encode.f k l code) (encE l code) := by
  have hl3 := goodPts_len g
  have key : ∀ (m i : Nat), i + m = l.length → Ev (fun k => spec_l2Encode.l0 k code (encL code (l.take i)) l (l.length : Int) (i : Int)) (if code = 3 ∧ narrowB (l.drop i) = false then (⟨#[]⟩, false) else (strOfNums (encL code l), true)) := by
    intro m
    induction m with
    | zero =>
      intro i hi
      refine Pl.ev_const 1 fun k => ?_
      simp only [spec_l2Encode.l0]
      rw [if_neg (by omega), List.drop_of_length_le (by omega), show i = l.length by omega, List.take_length, if_neg (by unfold narrowB; simp)]
    | succ m ih =>
      intro i hi
      have hil : i < l.length := by omega
      have hn := ih (i + 1) (by omega)
      obtain ⟨p0, p1, p2⟩ := goodPts_at g i hil
      have hlen : (encL code (l.take i)).length ≤ 900000 := by have := encL_len code (l.take i); rw [List.length_take] at this; omega
      have hsn := encL_snoc code l i hil
      have u1 := enc1_len code l[i]
      have hnb : narrowB (l.drop i) = (decide (l[i] < 256) && narrowB (l.drop (i + 1))) := by unfold narrowB; rw [List.drop_eq_getElem_cons hil, List.all_cons]
      rw [hnb]
      rw [hsn] at hn
      by_cases c1 : code = 1
      · subst c1
        rw [if_neg (by omega)] at hn ⊢
        refine Pl.ev_skip 1 (fun k => ?_) hn
        simp only [spec_l2Encode.l0]
        rw [if_pos (by omega), if_pos (by omega), if_pos (by omega), Pl.rd_at l i hil, Pl.w64s i l.length (by omega) (by omega), if_pos trivial, utf8_told1 _ p0 p1, Option.bind_some, if_pos (by have := u8M_len l[i]; omega)]
        rfl
      · by_cases c2 : code = 2
        · subst c2
          rw [if_neg (by omega)] at hn ⊢
          refine Pl.ev_skip 1 (fun k => ?_) hn
          simp only [spec_l2Encode.l0]
          rw [if_pos (by omega), if_pos (by omega), if_pos (by omega), Pl.rd_at l i hil, Pl.w64s i l.length (by omega) (by omega), if_neg (by omega), if_pos trivial, utf16_told1 _ p0 p1, Option.bind_some, if_pos (by have := u16M_len l[i]; omega)]
          rfl
        · obtain rfl : code = 3 := by omega
          by_cases b : l[i] > 255
          · rw [decide_eq_false (by omega), Bool.false_and, if_pos ⟨rfl, rfl⟩]
            refine Pl.ev_const 1 fun k => ?_
            simp only [spec_l2Encode.l0]
            rw [if_pos (by omega), if_pos (by omega), if_pos (by omega), Pl.rd_at l i hil, if_neg (by omega), if_neg (by omega), if_pos b]
          · rw [decide_eq_true (by omega), Bool.true_and]
            refine Pl.ev_skip 1 (fun k => ?_) hn
            simp only [spec_l2Encode.l0]
            rw [if_pos (by omega), if_pos (by omega), if_pos (by omega), Pl.rd_at l i hil, Pl.w64s i l.length (by omega) (by omega), if_neg (by omega), if_neg (by omega), if_neg b, if_pos (by omega)]
            rfl
  have := key l.length 0 (by omega)
  unfold spec_l2Encode.f encE
  simp only [List.take_zero, List.drop_zero] at this
  exact this
end
section
open PEncodePoints
theorem encodeP_told (l : List Int) (code : Int) (hl : l.length ≤ 1048576) : Ev (fun k => spec_EncodePoints.f k l code) (encM l code) := by
  unfold spec_EncodePoints.f
  refine (points_spec1 l (by omega)).bind ?_
  by_cases g : goodPts l = true
  · simp only [if_pos g]
    unfold spec_l2Code.f
    simp only [l1In_told1, Option.bind_some]
    by_cases c : 1 ≤ code ∧ code ≤ 3
    · simp only [decide_eq_true c, if_true]
      rw [encM_good g code c]
      exact (encode_told1 l code g c).bind (Ev.now _)
    · simp only [decide_eq_false c, Bool.false_eq_true, if_false]
      rw [encM_bad (.inr (by omega))]
      exact Ev.now _
  · simp only [if_neg g]
    rw [encM_bad (.inl (Bool.eq_false_iff.2 g))]
    exact Ev.now _
end
theorem spec_EncodePoints (A : Option Addr) (c : Nat) (l : List Int) (code : Int) (w : World) (hr : Kd.C (Kd.int .i64) w A l.length l) (hc : l.length ≤ c) (hl : l.length ≤ 1048576) : Calls Tryd.prog 7 #[.slice A l.length c, .int .i64 code] w fun e w' => e = .returned (.tuple #[.string (encM l code).1, .bool (encM l code).2]) ∧ Below w.heap.size w w' := by
  obtain ⟨k, hk⟩ := (encodeP_told l code hl).rounds
  exact PEncodePoints.spec_EncodePoints.calls k A c l code _ _ w hr hc hk
/-- The reference's own encoding of good points. -/
theorem enc2_s (A : Option Addr) (c : Nat) (l : List Int) (code : Int) (w : World) (hr : Kd.C (Kd.int .i64) w A l.length l) (hc : l.length ≤ c) (g : goodPts l = true) (h : 1 ≤ code ∧ code ≤ 3) : Calls Tryd.prog 26 #[.slice A l.length c, .int .i64 code] w fun e w' => e = .returned (.tuple #[.string (encE l code).1, .bool (encE l code).2]) ∧ Below w.heap.size w w' := by
  obtain ⟨k, hk⟩ := (encode_told1 l code g h).rounds
  exact (PEncodePoints.spec_l2Encode.calls k A c l code (encE l code).1 (encE l code).2 w hr hc hk).mono fun e w' h => ⟨h.1, by first | exact h.2 | exact h.2.below⟩
end Go.Proofs.YtchjmkofdiejhaaDoor.OwnTextE
