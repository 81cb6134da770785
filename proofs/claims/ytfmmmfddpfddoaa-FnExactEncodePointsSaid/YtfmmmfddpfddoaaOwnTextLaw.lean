/- Texts of points as bytes: the reference's side by printed walks, the laws by walks of our own. -/
import Derived.Test.YtfmmmfddpfddoaaOwnText
import Derived.Test.YtfmmmfddpfddoaaPSizeAsx
import Derived.Test.YtfmmmfddpfddoaaPCompactBytesx
import Derived.Test.YtfmmmfddpfddoaaPtoIntSx
import Derived.Test.YtfmmmfddpfddoaaPeqIntSx
namespace Go.Proofs.Ytfmmmfddpfddoaa.OwnTextLaw
open Go Go.RowKit Go.Proofs.YtfmmmfddpfddoaaW.PrintWords Go.Proofs.YtfmmmfddpfddoaaW.PrintLast Go.Proofs.YtfmmmfddpfddoaaW.PrintMore Go.Proofs.Ytfmmmfddpfddoaa.OwnBs Go.Proofs.Ytfmmmfddpfddoaa.OwnText
set_option linter.unusedVariables false
set_option linter.unusedSimpArgs false
theorem or_hi (i : Nat) (a b : Int) (hi : i ≤ 62) (ha : a % 2 ^ i = 0) (a0 : 0 ≤ a) (b0 : 0 ≤ b ∧ b < 2 ^ i) (h : a + b < 9223372036854775808) : bits .or .i64 a b = a + b := by
  rw [Pl.or_comm, Pl.or_join .i64 i (show i ≤ 64 by omega) b a b0.1 b0.2 ha, IntKind.wrap_i64]; omega
def encE (l : List Int) (code : Int) : ByteArray × Bool := if code = 3 ∧ narrowB l = false then (⟨#[]⟩, false) else (strOfNums (encL code l), true)
theorem encM_good {l : List Int} (g : goodPts l = true) (code : Int) (h : 1 ≤ code ∧ code ≤ 3) : encM l code = encE l code := by
  unfold encM encE
  by_cases c : code = 3 ∧ narrowB l = false
  · rw [if_neg (fun h => by have := h.2.2.2 c.1; rw [c.2] at this; cases this), if_pos c]
  · rw [if_pos ⟨g, h.1, h.2, fun h3 => by cases hn : narrowB l with | true => rfl | false => exact absurd ⟨h3, hn⟩ c⟩, if_neg c]
theorem encM_bad {l : List Int} {code : Int} (h : goodPts l = false ∨ code < 1 ∨ 3 < code) : encM l code = (⟨#[]⟩, false) := by
  unfold encM
  rw [if_neg]
  rintro ⟨g, g1, g2, _⟩
  rcases h with h | h | h
  · rw [h] at g; cases g
  · omega
  · omega
section
open PSizeAs
theorem l1In_told1 (a b c : Int) : spec_l1In.f a b c = some (decide (b ≤ a ∧ a ≤ c)) := by
  unfold spec_l1In.f
  by_cases h : b ≤ a <;> simp [h]
theorem points_spec1 (l : List Int) (hl : l.length ≤ 35184372088832) : Ev (fun k => spec_l2Points.f k l) (goodPts l) := by
  have key : ∀ (m i : Nat), i + m = l.length → Ev (fun k => spec_l2Points.l0 k l l (l.length : Int) (i : Int)) ((l.drop i).all goodB && decide (l.length ≤ 300)) := by
    intro m
    induction m with
    | zero =>
      intro i hi
      refine Pl.ev_const 1 fun k => ?_
      simp only [spec_l2Points.l0]
      rw [if_neg (by omega), List.drop_of_length_le (by omega)]
      simp
      omega
    | succ m ih =>
      intro i hi
      have hil : i < l.length := by omega
      have hn := ih (i + 1) (by omega)
      have step : ∀ k, spec_l2Points.l0 (k + 1) l l (l.length : Int) (i : Int) = if goodB l[i] = true then spec_l2Points.l0 k l l (l.length : Int) ((i + 1 : Nat) : Int) else some false := by
        intro k
        simp only [spec_l2Points.l0]
        rw [if_pos (by omega), if_pos (by omega), if_pos (by omega), Pl.rd_at l i hil, Pl.w64s i l.length (by omega) (by omega)]
        simp only [l1In_told1, Option.bind_some, decide_eq_true_eq]
        unfold goodB
        simp only [decide_eq_true_eq]
        by_cases h1 : 0 ≤ l[i] ∧ l[i] ≤ 1114111
        · by_cases h2 : 55296 ≤ l[i] ∧ l[i] ≤ 57343
          · rw [if_pos h1, if_pos h2, if_neg (by omega)]
          · rw [if_pos h1, if_neg h2, if_pos (by omega)]
        · rw [if_neg h1, if_neg (by omega)]
      by_cases hg : goodB l[i] = true
      · have e : (l.drop i).all goodB = (l.drop (i + 1)).all goodB := by
          rw [drop_all l i hil, hg, Bool.true_and]
        rw [e]
        exact Pl.ev_skip 1 (fun k => by rw [step, if_pos hg]) hn
      · have e : (l.drop i).all goodB = false := by
          rw [drop_all l i hil, Bool.eq_false_iff.2 hg, Bool.false_and]
        rw [e]
        exact Pl.ev_const 1 (fun k => by rw [step, if_neg hg]; rfl)
  have := key l.length 0 (by omega)
  unfold spec_l2Points.f goodPts
  simpa using this
theorem utf8_told1 (p : Int) (h0 : 0 ≤ p) (h1 : p ≤ 1114111) : spec_l2Utf8.f p = some (u8M p) := by
  have a1 : bits .and .i64 p 63 = p % 64 := Pl.and_mask .i64 6 (by decide) p
  have a2 : bits .and .i64 (p / 64) 63 = p / 64 % 64 := Pl.and_mask .i64 6 (by decide) _
  have a3 : bits .and .i64 (p / 4096) 63 = p / 4096 % 64 := Pl.and_mask .i64 6 (by decide) _
  unfold spec_l2Utf8.f u8M
  rw [a1, a2, a3]
  by_cases c1 : p < 128
  · rw [if_pos c1, if_pos c1, show p % 256 = p by omega]
  · rw [if_neg c1, if_neg c1]
    by_cases c2 : p < 2048
    · rw [if_pos c2, if_pos c2, or_hi 6 192 (p / 64) (by omega) (by decide) (by omega) (by omega) (by omega), or_hi 6 128 (p % 64) (by omega) (by decide) (by omega) (by omega) (by omega), show (192 + p / 64) % 256 = 192 + p / 64 by omega, show (128 + p % 64) % 256 = 128 + p % 64 by omega]
    · rw [if_neg c2, if_neg c2]
      by_cases c3 : p < 65536
      · rw [if_pos c3, if_pos c3, or_hi 5 224 (p / 4096) (by omega) (by decide) (by omega) (by omega) (by omega), or_hi 6 128 (p / 64 % 64) (by omega) (by decide) (by omega) (by omega) (by omega), or_hi 6 128 (p % 64) (by omega) (by decide) (by omega) (by omega) (by omega), show (224 + p / 4096) % 256 = 224 + p / 4096 by omega, show (128 + p / 64 % 64) % 256 = 128 + p / 64 % 64 by omega, show (128 + p % 64) % 256 = 128 + p % 64 by omega]
      · rw [if_neg c3, if_neg c3, or_hi 4 240 (p / 262144) (by omega) (by decide) (by omega) (by omega) (by omega), or_hi 6 128 (p / 4096 % 64) (by omega) (by decide) (by omega) (by omega) (by omega), or_hi 6 128 (p / 64 % 64) (by omega) (by decide) (by omega) (by omega) (by omega), or_hi 6 128 (p % 64) (by omega) (by decide) (by omega) (by omega) (by omega), show (240 + p / 262144) % 256 = 240 + p / 262144 by omega, show (128 + p / 4096 % 64) % 256 = 128 + p / 4096 % 64 by omega, show (128 + p / 64 % 64) % 256 = 128 + p / 64 % 64 by omega, show (128 + p % 64) % 256 = 128 + p % 64 by omega]
theorem utf16_told1 (p : Int) (h0 : 0 ≤ p) (h1 : p ≤ 1114111) : spec_l2Utf16.f p = some (u16M p) := by
  unfold spec_l2Utf16.f u16M
  by_cases c1 : p < 65536
  · rw [if_pos c1, if_pos c1, show p / 256 % 256 = p / 256 by omega]
  · rw [if_neg c1, if_neg c1, Pl.w64 (n := p - 65536) (by omega) (by omega), show bits .and .i64 (p - 65536) 1023 = (p - 65536) % 1024 from Pl.and_mask .i64 10 (by decide) _, or_hi 10 55296 ((p - 65536) / 1024) (by omega) (by decide) (by omega) (by omega) (by omega), or_hi 10 56320 ((p - 65536) % 1024) (by omega) (by decide) (by omega) (by omega) (by omega), show (55296 + (p - 65536) / 1024) / 256 % 256 = (55296 + (p - 65536) / 1024) / 256 by omega, show (56320 + (p - 65536) % 1024) / 256 % 256 = (56320 + (p - 65536) % 1024) / 256 by omega]
theorem encode_told1 (l : List Int) (code : Int) (g : goodPts l = true) (hc : 1 ≤ code ∧ code ≤ 3) : Ev (fun k => spec_l2Encode.f k l code) (encE l code) := by
  have hl3 := goodPts_len g
  have key : ∀ (m i : Nat), i + m = l.length → Ev (fun k => spec_l2Encode.l0 k code (encL code (l.take i)) l (l.length : Int) (i : Int)) (if code = 3 ∧ narrowB (l.drop i) = false then (⟨#[]⟩, false) else (strOfNums (encL code l), true)) := by
    intro m
    induction m with
    | zero =>
      intro i hi
      refine Pl.ev_const 1 fun k => ?_
      simp only [spec_l2Encode.l0]
      rw [if_neg (by omega), List.drop_of_length_le (by omega), show i = l.length by omega, List.take_length, if_neg (by unfold narrowB; simp)]
    | succ m ih =>
      intro i hi
      have hil : i < l.length := by omega
      have hn := ih (i + 1) (by omega)
      obtain ⟨p0, p1, p2⟩ := goodPts_at g i hil
      have hlen : (encL code (l.take i)).length ≤ 900000 := by have := encL_len code (l.take i); rw [List.length_take] at this; omega
      have hsn := encL_snoc code l i hil
      have u1 := enc1_len code l[i]
      have hnb : narrowB (l.drop i) = (decide (l[i] < 256) && narrowB (l.drop (i + 1))) := by unfold narrowB; rw [List.drop_eq_getElem_cons hil, List.all_cons]
      rw [hnb]
      rw [hsn] at hn
      by_cases c1 : code = 1
      · subst c1
        rw [if_neg (by omega)] at hn ⊢
        refine Pl.ev_skip 1 (fun k => ?_) hn
        simp only [spec_l2Encode.l0]
        rw [if_pos (by omega), if_pos (by omega), if_pos (by omega), Pl.rd_at l i hil, Pl.w64s i l.length (by omega) (by omega), if_pos trivial, utf8_told1 _ p0 p1, Option.bind_some, if_pos (by have := u8M_len l[i]; omega)]
        rfl
      · by_cases c2 : code = 2
        · subst c2
          rw [if_neg (by omega)] at hn ⊢
          refine Pl.ev_skip 1 (fun k => ?_) hn
          simp only [spec_l2Encode.l0]
          rw [if_pos (by omega), if_pos (by omega), if_pos (by omega), Pl.rd_at l i hil, Pl.w64s i l.length (by omega) (by omega), if_neg (by omega), if_pos trivial, utf16_told1 _ p0 p1, Option.bind_some, if_pos (by have := u16M_len l[i]; omega)]
          rfl
        · obtain rfl : code = 3 := by omega
          by_cases b : l[i] > 255
          · rw [decide_eq_false (by omega), Bool.false_and, if_pos ⟨rfl, rfl⟩]
            refine Pl.ev_const 1 fun k => ?_
            simp only [spec_l2Encode.l0]
            rw [if_pos (by omega), if_pos (by omega), if_pos (by omega), Pl.rd_at l i hil, if_neg (by omega), if_neg (by omega), if_pos b]
          · rw [decide_eq_true (by omega), Bool.true_and]
            refine Pl.ev_skip 1 (fun k => ?_) hn
            simp only [spec_l2Encode.l0]
            rw [if_pos (by omega), if_pos (by omega), if_pos (by omega), Pl.rd_at l i hil, Pl.w64s i l.length (by omega) (by omega), if_neg (by omega), if_neg (by omega), if_neg b, if_pos (by omega)]
            rfl
  have := key l.length 0 (by omega)
  unfold spec_l2Encode.f encE
  simp only [List.take_zero, List.drop_zero] at this
  exact this
end
section
open PCompactBytes
theorem l1In_told2 (a b c : Int) : spec_l1In.f a b c = some (decide (b ≤ a ∧ a ≤ c)) := by
  unfold spec_l1In.f
  by_cases h : b ≤ a <;> simp [h]
theorem points_spec2 (l : List Int) (hl : l.length ≤ 35184372088832) : Ev (fun k => spec_l2Points.f k l) (goodPts l) := by
  have key : ∀ (m i : Nat), i + m = l.length → Ev (fun k => spec_l2Points.l0 k l l (l.length : Int) (i : Int)) ((l.drop i).all goodB && decide (l.length ≤ 300)) := by
    intro m
    induction m with
    | zero =>
      intro i hi
      refine Pl.ev_const 1 fun k => ?_
      simp only [spec_l2Points.l0]
      rw [if_neg (by omega), List.drop_of_length_le (by omega)]
      simp
      omega
    | succ m ih =>
      intro i hi
      have hil : i < l.length := by omega
      have hn := ih (i + 1) (by omega)
      have step : ∀ k, spec_l2Points.l0 (k + 1) l l (l.length : Int) (i : Int) = if goodB l[i] = true then spec_l2Points.l0 k l l (l.length : Int) ((i + 1 : Nat) : Int) else some false := by
        intro k
        simp only [spec_l2Points.l0]
        rw [if_pos (by omega), if_pos (by omega), if_pos (by omega), Pl.rd_at l i hil, Pl.w64s i l.length (by omega) (by omega)]
        simp only [l1In_told2, Option.bind_some, decide_eq_true_eq]
        unfold goodB
        simp only [decide_eq_true_eq]
        by_cases h1 : 0 ≤ l[i] ∧ l[i] ≤ 1114111
        · by_cases h2 : 55296 ≤ l[i] ∧ l[i] ≤ 57343
          · rw [if_pos h1, if_pos h2, if_neg (by omega)]
          · rw [if_pos h1, if_neg h2, if_pos (by omega)]
        · rw [if_neg h1, if_neg (by omega)]
      by_cases hg : goodB l[i] = true
      · have e : (l.drop i).all goodB = (l.drop (i + 1)).all goodB := by
          rw [drop_all l i hil, hg, Bool.true_and]
        rw [e]
        exact Pl.ev_skip 1 (fun k => by rw [step, if_pos hg]) hn
      · have e : (l.drop i).all goodB = false := by
          rw [drop_all l i hil, Bool.eq_false_iff.2 hg, Bool.false_and]
        rw [e]
        exact Pl.ev_const 1 (fun k => by rw [step, if_neg hg]; rfl)
  have := key l.length 0 (by omega)
  unfold spec_l2Points.f goodPts
  simpa using this
theorem utf8_told2 (p : Int) (h0 : 0 ≤ p) (h1 : p ≤ 1114111) : spec_l2Utf8.f p = some (u8M p) := by
  have a1 : bits .and .i64 p 63 = p % 64 := Pl.and_mask .i64 6 (by decide) p
  have a2 : bits .and .i64 (p / 64) 63 = p / 64 % 64 := Pl.and_mask .i64 6 (by decide) _
  have a3 : bits .and .i64 (p / 4096) 63 = p / 4096 % 64 := Pl.and_mask .i64 6 (by decide) _
  unfold spec_l2Utf8.f u8M
  rw [a1, a2, a3]
  by_cases c1 : p < 128
  · rw [if_pos c1, if_pos c1, show p % 256 = p by omega]
  · rw [if_neg c1, if_neg c1]
    by_cases c2 : p < 2048
    · rw [if_pos c2, if_pos c2, or_hi 6 192 (p / 64) (by omega) (by decide) (by omega) (by omega) (by omega), or_hi 6 128 (p % 64) (by omega) (by decide) (by omega) (by omega) (by omega), show (192 + p / 64) % 256 = 192 + p / 64 by omega, show (128 + p % 64) % 256 = 128 + p % 64 by omega]
    · rw [if_neg c2, if_neg c2]
      by_cases c3 : p < 65536
      · rw [if_pos c3, if_pos c3, or_hi 5 224 (p / 4096) (by omega) (by decide) (by omega) (by omega) (by omega), or_hi 6 128 (p / 64 % 64) (by omega) (by decide) (by omega) (by omega) (by omega), or_hi 6 128 (p % 64) (by omega) (by decide) (by omega) (by omega) (by omega), show (224 + p / 4096) % 256 = 224 + p / 4096 by omega, show (128 + p / 64 % 64) % 256 = 128 + p / 64 % 64 by omega, show (128 + p % 64) % 256 = 128 + p % 64 by omega]
      · rw [if_neg c3, if_neg c3, or_hi 4 240 (p / 262144) (by omega) (by decide) (by omega) (by omega) (by omega), or_hi 6 128 (p / 4096 % 64) (by omega) (by decide) (by omega) (by omega) (by omega), or_hi 6 128 (p / 64 % 64) (by omega) (by decide) (by omega) (by omega) (by omega), or_hi 6 128 (p % 64) (by omega) (by decide) (by omega) (by omega) (by omega), show (240 + p / 262144) % 256 = 240 + p / 262144 by omega, show (128 + p / 4096 % 64) % 256 = 128 + p / 4096 % 64 by omega, show (128 + p / 64 % 64) % 256 = 128 + p / 64 % 64 by omega, show (128 + p % 64) % 256 = 128 + p % 64 by omega]
theorem utf16_told2 (p : Int) (h0 : 0 ≤ p) (h1 : p ≤ 1114111) : spec_l2Utf16.f p = some (u16M p) := by
  unfold spec_l2Utf16.f u16M
  by_cases c1 : p < 65536
  · rw [if_pos c1, if_pos c1, show p / 256 % 256 = p / 256 by omega]
  · rw [if_neg c1, if_neg c1, Pl.w64 (n := p - 65536) (by omega) (by omega), show bits .and .i64 (p - 65536) 1023 = (p - 65536) % 1024 from Pl.and_mask .i64 10 (by decide) _, or_hi 10 55296 ((p - 65536) / 1024) (by omega) (by decide) (by omega) (by omega) (by omega), or_hi 10 56320 ((p - 65536) % 1024) (by omega) (by decide) (by omega) (by omega) (by omega), show (55296 + (p - 65536) / 1024) / 256 % 256 = (55296 + (p - 65536) / 1024) / 256 by omega, show (56320 + (p - 65536) % 1024) / 256 % 256 = (56320 + (p - 65536) % 1024) / 256 by omega]
theorem encode_told2 (l : List Int) (code : Int) (g : goodPts l = true) (hc : 1 ≤ code ∧ code ≤ 3) : Ev (fun k => spec_l2Encode.f k l code) (encE l code) := by
  have hl3 := goodPts_len g
  have key : ∀ (m i : Nat), i + m = l.length → Ev (fun k => spec_l2Encode.l0 k code (encL code (l.take i)) l (l.length : Int) (i : Int)) (if code = 3 ∧ narrowB (l.drop i) = false then (⟨#[]⟩, false) else (strOfNums (encL code l), true)) := by
    intro m
    induction m with
    | zero =>
      intro i hi
      refine Pl.ev_const 1 fun k => ?_
      simp only [spec_l2Encode.l0]
      rw [if_neg (by omega), List.drop_of_length_le (by omega), show i = l.length by omega, List.take_length, if_neg (by unfold narrowB; simp)]
    | succ m ih =>
      intro i hi
      have hil : i < l.length := by omega
      have hn := ih (i + 1) (by omega)
      obtain ⟨p0, p1, p2⟩ := goodPts_at g i hil
      have hlen : (encL code (l.take i)).length ≤ 900000 := by have := encL_len code (l.take i); rw [List.length_take] at this; omega
      have hsn := encL_snoc code l i hil
      have u1 := enc1_len code l[i]
      have hnb : narrowB (l.drop i) = (decide (l[i] < 256) && narrowB (l.drop (i + 1))) := by unfold narrowB; rw [List.drop_eq_getElem_cons hil, List.all_cons]
      rw [hnb]
      rw [hsn] at hn
      by_cases c1 : code = 1
      · subst c1
        rw [if_neg (by omega)] at hn ⊢
        refine Pl.ev_skip 1 (fun k => ?_) hn
        simp only [spec_l2Encode.l0]
        rw [if_pos (by omega), if_pos (by omega), if_pos (by omega), Pl.rd_at l i hil, Pl.w64s i l.length (by omega) (by omega), if_pos trivial, utf8_told2 _ p0 p1, Option.bind_some, if_pos (by have := u8M_len l[i]; omega)]
        rfl
      · by_cases c2 : code = 2
        · subst c2
          rw [if_neg (by omega)] at hn ⊢
          refine Pl.ev_skip 1 (fun k => ?_) hn
          simp only [spec_l2Encode.l0]
          rw [if_pos (by omega), if_pos (by omega), if_pos (by omega), Pl.rd_at l i hil, Pl.w64s i l.length (by omega) (by omega), if_neg (by omega), if_pos trivial, utf16_told2 _ p0 p1, Option.bind_some, if_pos (by have := u16M_len l[i]; omega)]
          rfl
        · obtain rfl : code = 3 := by omega
          by_cases b : l[i] > 255
          · rw [decide_eq_false (by omega), Bool.false_and, if_pos ⟨rfl, rfl⟩]
            refine Pl.ev_const 1 fun k => ?_
            simp only [spec_l2Encode.l0]
            rw [if_pos (by omega), if_pos (by omega), if_pos (by omega), Pl.rd_at l i hil, if_neg (by omega), if_neg (by omega), if_pos b]
          · rw [decide_eq_true (by omega), Bool.true_and]
            refine Pl.ev_skip 1 (fun k => ?_) hn
            simp only [spec_l2Encode.l0]
            rw [if_pos (by omega), if_pos (by omega), if_pos (by omega), Pl.rd_at l i hil, Pl.w64s i l.length (by omega) (by omega), if_neg (by omega), if_neg (by omega), if_neg b, if_pos (by omega)]
            rfl
  have := key l.length 0 (by omega)
  unfold spec_l2Encode.f encE
  simp only [List.take_zero, List.drop_zero] at this
  exact this
end
section
open PSizeAs
theorem encodeP_told (l : List Int) (code : Int) (hl : l.length ≤ 1048576) : Ev (fun k => spec_EncodePoints.f k l code) (encM l code) := by
  unfold spec_EncodePoints.f
  refine (points_spec1 l (by omega)).bind ?_
  by_cases g : goodPts l = true
  · simp only [if_pos g]
    unfold spec_l2Code.f
    simp only [l1In_told1, Option.bind_some]
    by_cases c : 1 ≤ code ∧ code ≤ 3
    · simp only [decide_eq_true c, if_true]
      rw [encM_good g code c]
      exact (encode_told1 l code g c).bind (Ev.now _)
    · simp only [decide_eq_false c, Bool.false_eq_true, if_false]
      rw [encM_bad (.inr (by omega))]
      exact Ev.now _
  · simp only [if_neg g]
    rw [encM_bad (.inl (Bool.eq_false_iff.2 g))]
    exact Ev.now _
theorem sizeAs_told (l : List Int) (code : Int) (hl : l.length ≤ 1048576) : Ev (fun k => spec_SizeAs.f k l code) (((encM l code).1.size : Int), (encM l code).2) := by
  unfold spec_SizeAs.f
  refine (encodeP_told l code hl).bind ?_
  by_cases h : (encM l code).2 = true
  · simp only [if_pos h]
    rw [h]
    exact Ev.now _
  · simp only [if_neg h]
    have h1 : encM l code = (⟨#[]⟩, false) := by
      unfold encM at h ⊢
      split
      · rename_i hp; rw [if_pos hp] at h; exact absurd rfl h
      · rfl
    rw [h1]
    exact Ev.now _
end
/-- What CompactBytes tells. -/
def cmpB (l : List Int) : ByteArray × Bool × Bool := if goodPts l = true then (if narrowB l = true then (strOfNums (encL 3 l), false, true) else (strOfNums (encL 2 l), true, true)) else (⟨#[]⟩, false, false)
section
open PCompactBytes
theorem compact_told (l : List Int) (hl : l.length ≤ 1048576) : Ev (fun k => spec_CompactBytes.f k l) (cmpB l) := by
  unfold spec_CompactBytes.f cmpB
  refine (points_spec2 l (by omega)).bind ?_
  by_cases g : goodPts l = true
  · simp only [if_pos g]
    refine (encode_told2 l 3 g (by decide)).bind ?_
    unfold encE
    cases n : narrowB l with
    | true =>
      simp only [Bool.true_eq_false, and_false, if_false, if_true]
      exact Ev.now _
    | false =>
      simp only [and_self, if_true, Bool.false_eq_true, if_false]
      refine (encode_told2 l 2 g (by decide)).bind ?_
      exact Ev.now _
  · simp only [if_neg g]
    exact Ev.now _
end
theorem spec_EncodePoints (A : Option Addr) (c : Nat) (l : List Int) (code : Int) (w : World) (hr : Kd.C (Kd.int .i64) w A l.length l) (hc : l.length ≤ c) (hl : l.length ≤ 1048576) : Calls Try.prog 15 #[.slice A l.length c, .int .i64 code] w fun e w' => e = .returned (.tuple #[.string (encM l code).1, .bool (encM l code).2]) ∧ Below w.heap.size w w' := by
  obtain ⟨k, hk⟩ := (encodeP_told l code hl).rounds
  exact PSizeAs.spec_EncodePoints.calls k A c l code _ _ w hr hc hk
theorem spec_SizeAs (A : Option Addr) (c : Nat) (l : List Int) (code : Int) (w : World) (hr : Kd.C (Kd.int .i64) w A l.length l) (hc : l.length ≤ c) (hl : l.length ≤ 1048576) : Calls Try.prog 28 #[.slice A l.length c, .int .i64 code] w fun e w' => e = .returned (.tuple #[.int .i64 (encM l code).1.size, .bool (encM l code).2]) ∧ Below w.heap.size w w' := by
  obtain ⟨k, hk⟩ := (sizeAs_told l code hl).rounds
  exact PSizeAs.spec_SizeAs.calls k A c l code _ _ w hr hc hk
theorem spec_CompactBytes (A : Option Addr) (c : Nat) (l : List Int) (w : World) (hr : Kd.C (Kd.int .i64) w A l.length l) (hc : l.length ≤ c) (hl : l.length ≤ 1048576) : Calls Try.prog 30 #[.slice A l.length c] w fun e w' => e = .returned (.tuple #[.string (cmpB l).1, .bool (cmpB l).2.1, .bool (cmpB l).2.2]) ∧ Below w.heap.size w w' := by
  obtain ⟨k, hk⟩ := (compact_told l hl).rounds
  exact PCompactBytes.spec_CompactBytes.calls k A c l _ _ _ w hr hc hk
theorem impl_EncodePoints (A : Option Addr) (c : Nat) (l : List Int) (code : Int) (w : World) (hr : Kd.C (Kd.int .i64) w A l.length l) (hc : l.length ≤ c) (hl : l.length ≤ 1048576) : Calls Try.prog 17 #[.slice A l.length c, .int .i64 code] w fun e w' => e = .returned (.tuple #[.string (encM l code).1, .bool (encM l code).2]) ∧ Below w.heap.size w w' := encode_i A c l code w hr hc hl
theorem impl_SizeAs (A : Option Addr) (c : Nat) (l : List Int) (code : Int) (w : World) (hr : Kd.C (Kd.int .i64) w A l.length l) (hc : l.length ≤ c) (hl : l.length ≤ 1048576) : Calls Try.prog 29 #[.slice A l.length c, .int .i64 code] w fun e w' => e = .returned (.tuple #[.int .i64 (encM l code).1.size, .bool (encM l code).2]) ∧ Below w.heap.size w w' := by
  have ce := fun w hr => encode_i A c l code w hr hc hl
  have HR := Aside0.mk hr
  clear hr
  generalize encM l code = r at *
  obtain ⟨s, ok⟩ := r
  go_enter Try.func29, Try.ntmps29
  go_wp2_with (go_at_call 17; (with_reducible refine (ce _ HR.out).mono ?_); rintro e w1 ⟨rfl, B1⟩)
  go_ret2
  exact ⟨rfl, B1⟩
theorem impl_CompactBytes (A : Option Addr) (c : Nat) (l : List Int) (w : World) (hr : Kd.C (Kd.int .i64) w A l.length l) (hc : l.length ≤ c) (hl : l.length ≤ 1048576) : Calls Try.prog 31 #[.slice A l.length c] w fun e w' => e = .returned (.tuple #[.string (cmpB l).1, .bool (cmpB l).2.1, .bool (cmpB l).2.2]) ∧ Below w.heap.size w w' := by
  have c3 := fun w hr => encode_i A c l 3 w hr hc hl
  have c2 := fun w hr => encode_i A c l 2 w hr hc hl
  have HR := Aside0.mk hr
  clear hr
  by_cases g : goodPts l = true
  · have e2 : encM l 2 = (strOfNums (encL 2 l), true) := by rw [encM_good g 2 (by decide)]; unfold encE; rw [if_neg (by omega)]
    rw [e2] at c2
    cases n : narrowB l with
    | true =>
      have e3 : encM l 3 = (strOfNums (encL 3 l), true) := by rw [encM_good g 3 (by decide)]; unfold encE; rw [if_neg (by rw [n]; simp)]
      have hm : cmpB l = (strOfNums (encL 3 l), false, true) := by unfold cmpB; rw [if_pos g, if_pos n]
      rw [e3] at c3
      rw [hm]
      clear e2 e3 hm n g c2
      go_enter Try.func31, Try.ntmps31
      go_wp2_with (go_at_call 17; (with_reducible refine (c3 _ HR.out).mono ?_); rintro e w1 ⟨rfl, B1⟩)
      go_ret3
      exact ⟨rfl, B1⟩
    | false =>
      have e3 : encM l 3 = (⟨#[]⟩, false) := by rw [encM_good g 3 (by decide)]; unfold encE; rw [if_pos ⟨rfl, n⟩]
      have hm : cmpB l = (strOfNums (encL 2 l), true, true) := by unfold cmpB; rw [if_pos g, if_neg (by rw [n]; decide)]
      rw [e3] at c3
      rw [hm]
      clear e2 e3 hm n g
      go_enter Try.func31, Try.ntmps31
      go_wp2_with fail
      refine (c3 _ HR.out).mono ?_
      rintro e w1 ⟨rfl, B1⟩
      go_wp2_with fail
      refine (c2 _ (Kd.C_below HR.out B1)).mono ?_
      rintro e w2 ⟨rfl, B2⟩
      go_wp2_with fail
      go_ret3
      exact ⟨rfl, below_step B1 B2⟩
  · have g' := Bool.eq_false_iff.2 g
    have hm : cmpB l = (⟨#[]⟩, false, false) := by unfold cmpB; rw [if_neg g]
    rw [encM_bad (.inl g')] at c3 c2
    rw [hm]
    clear hm g g'
    go_enter Try.func31, Try.ntmps31
    go_wp2_with fail
    refine (c3 _ HR.out).mono ?_
    rintro e w1 ⟨rfl, B1⟩
    go_wp2_with fail
    refine (c2 _ (Kd.C_below HR.out B1)).mono ?_
    rintro e w2 ⟨rfl, B2⟩
    go_wp2_with fail
    go_ret3
    exact ⟨rfl, below_step B1 B2⟩

section
open PtoIntS
theorem toIntS_told (l : List Int) (hl : l.length ≤ 35184372088832) : Ev (fun k => laws_toIntS.f k l) l := by
  have key : ∀ (m i : Nat), i + m = l.length → Ev (fun k => laws_toIntS.l0 k l (l.take i ++ List.replicate (l.length - i) 0) (i : Int)) l := by
    intro m
    induction m with
    | zero =>
      intro i hi
      refine Pl.ev_const 1 fun k => ?_
      simp only [laws_toIntS.l0]
      rw [if_neg (by omega), show i = l.length by omega, Nat.sub_self, List.take_length]
      simp
    | succ m ih =>
      intro i hi
      refine Pl.ev_skip 1 (fun k => ?_) (ih (i + 1) (by omega))
      show laws_toIntS.l0 (k + 1) l _ (i : Int) = _
      simp only [laws_toIntS.l0]
      rw [if_pos (by omega), if_pos (by omega), if_pos (by rw [Pl.set_step_len l 0 i (by omega)]; omega), Pl.w64s i l.length (by omega) (by omega), Int.toNat_natCast]
      unfold rd
      rw [Int.toNat_natCast, Pl.set_step l 0 0 i (by omega)]
  unfold laws_toIntS.f
  simp only [if_pos (show 0 ≤ (l.length : Int) by omega), Int.toNat_natCast, if_pos hl]
  have := key l.length 0 (by omega)
  simpa using this
end
section
open PeqIntS
theorem eqIntS_refl (l : List Int) (hl : l.length ≤ 35184372088832) : Ev (fun k => laws_eqIntS.f k l l) true := by
  have key : ∀ (m i : Nat), i + m = l.length → Ev (fun k => laws_eqIntS.l0 k l l (i : Int)) true := by
    intro m
    induction m with
    | zero =>
      intro i hi
      refine Pl.ev_const 1 fun k => ?_
      simp only [laws_eqIntS.l0]
      rw [if_neg (by omega)]
    | succ m ih =>
      intro i hi
      refine Pl.ev_skip 1 (fun k => ?_) (ih (i + 1) (by omega))
      show laws_eqIntS.l0 (k + 1) l l (i : Int) = _
      simp only [laws_eqIntS.l0]
      rw [if_pos (by omega), if_pos (by omega), if_pos (by omega), if_pos trivial, Pl.w64s i l.length (by omega) (by omega)]
  unfold laws_eqIntS.f
  simp only [eq_self, if_true]
  exact key l.length 0 (by omega)
end

theorem toInts (A : Option Addr) (c : Nat) (l : List Int) (w : World) (hr : Kd.C (Kd.int .i64) w A l.length l) (hc : l.length ≤ c) (hl : l.length ≤ 1048576) : Calls Try.prog 16 #[.slice A l.length c] w fun e w' => ∃ A' c', e = .returned (.slice A' l.length c') ∧ l.length ≤ c' ∧ Kd.C (Kd.int .i64) w' A' l.length l ∧ Below w.heap.size w w' := by
  obtain ⟨k, hk⟩ := (toIntS_told l (by omega)).rounds
  refine (PtoIntS.laws_toIntS.calls k A c l l w hr hc hk).mono ?_
  rintro e w' ⟨v, rfl, hR, hb⟩
  obtain ⟨A', c', rfl⟩ := Kd.R_slice hR
  exact ⟨A', c', rfl, (Kd.R_reads' hR).2.1, (Kd.R_reads' hR).2.2, hb⟩
theorem eqInts (A : Option Addr) (c : Nat) (A' : Option Addr) (c' : Nat) (l : List Int) (w : World) (hr : Kd.C (Kd.int .i64) w A l.length l) (hc : l.length ≤ c) (hr' : Kd.C (Kd.int .i64) w A' l.length l) (hc' : l.length ≤ c') (hl : l.length ≤ 1048576) : Calls Try.prog 18 #[.slice A l.length c, .slice A' l.length c'] w fun e w' => e = .returned (.bool true) ∧ Below w.heap.size w w' := by
  obtain ⟨k, hk⟩ := (eqIntS_refl l (by omega)).rounds
  exact (PeqIntS.laws_eqIntS.calls k A c l A' c' l true w hr hc hr' hc' hk).mono fun e w' h => ⟨h.1, h.2.below⟩
set_option maxRecDepth 100000 in
set_option maxHeartbeats 4000000 in
theorem law_EncodePoints (A : Option Addr) (c : Nat) (l : List Int) (code : Int) (w : World) (hr : Kd.C (Kd.int .i64) w A l.length l) (hc : l.length ≤ c) : Calls Try.prog 4 #[.slice A l.length c, .int .i64 code] w fun e w' => e = .returned (.bool true) ∧ Below w.heap.size w w' := by
  have HR := Aside0.mk hr
  clear hr
  by_cases hl : l.length ≤ 1048576
  · have b1 : decide ((1048576 : Int) < (l.length : Int)) = false := decide_eq_false (by omega)
    have b2 : decide (1048576 < l.length) = false := decide_eq_false (by omega)
    go_enter Try.func4, Try.ntmps4
    go_wp2_with fail
    refine (toInts A c l _ HR.out hc hl).mono ?_
    rintro e w1 ⟨A1, c1, rfl, k1, C1, B1⟩
    go_wp2_with fail
    refine (spec_EncodePoints A1 c1 l code _ C1 k1 hl).mono ?_
    rintro e w2 ⟨rfl, B2⟩
    have B := below_step B1 B2
    clear B1 B2 C1
    go_wp2_with fail
    refine (toInts A c l _ (Kd.C_below HR.out B) hc hl).mono ?_
    rintro e w3 ⟨A3, c3, rfl, k3, C3, B3⟩
    replace B := below_step B B3
    clear B3
    go_wp2_with fail
    refine (impl_EncodePoints A3 c3 l code _ C3 k3 hl).mono ?_
    rintro e w4 ⟨rfl, B4⟩
    have D3 := Aside0.mk (Kd.C_below C3 B4)
    replace B := below_step B B4
    clear B4 C3
    go_wp2_with fail
    refine (toInts A c l _ (Kd.C_below HR.out B) hc hl).mono ?_
    rintro e w5 ⟨A5, c5, rfl, k5, C5, B5⟩
    replace B := below_step B B5
    go_wp2_with fail
    refine (eqInts A3 c3 A5 c5 l _ (Kd.C_below D3.out B5) k3 C5 k5 hl).mono ?_
    rintro e w6 ⟨rfl, B6⟩
    replace B := below_step B B6
    clear B5 B6 C5
    go_wp2
    go_ret
    exact ⟨rfl, B⟩
  · have b1 : decide ((1048576 : Int) < (l.length : Int)) = true := decide_eq_true (by omega)
    have b2 : decide (1048576 < l.length) = true := decide_eq_true (by omega)
    go_enter Try.func4, Try.ntmps4
    go_wp2_with fail
    go_ret
    exact ⟨rfl, Below.refl _ _⟩
set_option maxRecDepth 100000 in
set_option maxHeartbeats 4000000 in
theorem law_SizeAs (A : Option Addr) (c : Nat) (l : List Int) (code : Int) (w : World) (hr : Kd.C (Kd.int .i64) w A l.length l) (hc : l.length ≤ c) : Calls Try.prog 7 #[.slice A l.length c, .int .i64 code] w fun e w' => e = .returned (.bool true) ∧ Below w.heap.size w w' := by
  have HR := Aside0.mk hr
  clear hr
  by_cases hl : l.length ≤ 1048576
  · have b1 : decide ((1048576 : Int) < (l.length : Int)) = false := decide_eq_false (by omega)
    have b2 : decide (1048576 < l.length) = false := decide_eq_false (by omega)
    go_enter Try.func7, Try.ntmps7
    go_wp2_with fail
    refine (toInts A c l _ HR.out hc hl).mono ?_
    rintro e w1 ⟨A1, c1, rfl, k1, C1, B1⟩
    go_wp2_with fail
    refine (spec_SizeAs A1 c1 l code _ C1 k1 hl).mono ?_
    rintro e w2 ⟨rfl, B2⟩
    have B := below_step B1 B2
    clear B1 B2 C1
    go_wp2_with fail
    refine (toInts A c l _ (Kd.C_below HR.out B) hc hl).mono ?_
    rintro e w3 ⟨A3, c3, rfl, k3, C3, B3⟩
    replace B := below_step B B3
    clear B3
    go_wp2_with fail
    refine (impl_SizeAs A3 c3 l code _ C3 k3 hl).mono ?_
    rintro e w4 ⟨rfl, B4⟩
    have D3 := Aside0.mk (Kd.C_below C3 B4)
    replace B := below_step B B4
    clear B4 C3
    go_wp2_with fail
    refine (toInts A c l _ (Kd.C_below HR.out B) hc hl).mono ?_
    rintro e w5 ⟨A5, c5, rfl, k5, C5, B5⟩
    replace B := below_step B B5
    go_wp2_with fail
    refine (eqInts A3 c3 A5 c5 l _ (Kd.C_below D3.out B5) k3 C5 k5 hl).mono ?_
    rintro e w6 ⟨rfl, B6⟩
    replace B := below_step B B6
    clear B5 B6 C5
    go_wp2
    go_ret
    exact ⟨rfl, B⟩
  · have b1 : decide ((1048576 : Int) < (l.length : Int)) = true := decide_eq_true (by omega)
    have b2 : decide (1048576 < l.length) = true := decide_eq_true (by omega)
    go_enter Try.func7, Try.ntmps7
    go_wp2_with fail
    go_ret
    exact ⟨rfl, Below.refl _ _⟩
set_option maxRecDepth 100000 in
set_option maxHeartbeats 4000000 in
theorem law_CompactBytes (A : Option Addr) (c : Nat) (l : List Int) (w : World) (hr : Kd.C (Kd.int .i64) w A l.length l) (hc : l.length ≤ c) : Calls Try.prog 8 #[.slice A l.length c] w fun e w' => e = .returned (.bool true) ∧ Below w.heap.size w w' := by
  have HR := Aside0.mk hr
  clear hr
  by_cases hl : l.length ≤ 1048576
  · have b1 : decide ((1048576 : Int) < (l.length : Int)) = false := decide_eq_false (by omega)
    have b2 : decide (1048576 < l.length) = false := decide_eq_false (by omega)
    go_enter Try.func8, Try.ntmps8
    go_wp2_with fail
    refine (toInts A c l _ HR.out hc hl).mono ?_
    rintro e w1 ⟨A1, c1, rfl, k1, C1, B1⟩
    go_wp2_with fail
    refine (spec_CompactBytes A1 c1 l _ C1 k1 hl).mono ?_
    rintro e w2 ⟨rfl, B2⟩
    have B := below_step B1 B2
    clear B1 B2 C1
    go_wp2_with fail
    refine (toInts A c l _ (Kd.C_below HR.out B) hc hl).mono ?_
    rintro e w3 ⟨A3, c3, rfl, k3, C3, B3⟩
    replace B := below_step B B3
    clear B3
    go_wp2_with fail
    refine (impl_CompactBytes A3 c3 l _ C3 k3 hl).mono ?_
    rintro e w4 ⟨rfl, B4⟩
    have D3 := Aside0.mk (Kd.C_below C3 B4)
    replace B := below_step B B4
    clear B4 C3
    go_wp2_with fail
    refine (toInts A c l _ (Kd.C_below HR.out B) hc hl).mono ?_
    rintro e w5 ⟨A5, c5, rfl, k5, C5, B5⟩
    replace B := below_step B B5
    go_wp2_with fail
    refine (eqInts A3 c3 A5 c5 l _ (Kd.C_below D3.out B5) k3 C5 k5 hl).mono ?_
    rintro e w6 ⟨rfl, B6⟩
    replace B := below_step B B6
    clear B5 B6 C5
    go_wp2
    go_ret
    exact ⟨rfl, B⟩
  · have b1 : decide ((1048576 : Int) < (l.length : Int)) = true := decide_eq_true (by omega)
    have b2 : decide (1048576 < l.length) = true := decide_eq_true (by omega)
    go_enter Try.func8, Try.ntmps8
    go_wp2_with fail
    go_ret
    exact ⟨rfl, Below.refl _ _⟩

end Go.Proofs.Ytfmmmfddpfddoaa.OwnTextLaw
