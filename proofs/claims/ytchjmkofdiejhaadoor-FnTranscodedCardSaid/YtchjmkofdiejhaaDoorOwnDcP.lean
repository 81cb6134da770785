/- Texts in three codes, read point by point: plain laws; no condition of its own. -/
import Derived.Test.YtchjmkofdiejhaaDoorPlainA
import Derived.Test.YtchjmkofdiejhaaDoorPl2Decodex2
import Derived.Test.YtchjmkofdiejhaaDoorPtake16x1
import Derived.Shelf.Unicode.DecodeAny
namespace Go.Proofs.YtchjmkofdiejhaaDoor.OwnDcP
open Go Go.RowKit Go.Proofs.YtchjmkofdiejhaaDoorW.PrintWords Go.Proofs.YtchjmkofdiejhaaDoorW.PrintLast Go.Proofs.YtchjmkofdiejhaaDoorW.PrintMore
set_option linter.unusedVariables false
set_option linter.unusedSimpArgs false
theorem or_hi (i : Nat) (a b : Int) (hi : i ≤ 62) (ha : a % 2 ^ i = 0) (a0 : 0 ≤ a) (b0 : 0 ≤ b ∧ b < 2 ^ i) (h : a + b < 9223372036854775808) : bits .or .i64 a b = a + b := by
  rw [Pl.or_comm, Pl.or_join .i64 i (show i ≤ 64 by omega) b a b0.1 b0.2 ha, IntKind.wrap_i64]; omega
/-! ### UTF-8 -/
def u8M (p : Int) : List Int := if p < 128 then [p] else if p < 2048 then [192 + p / 64, 128 + p % 64] else if p < 65536 then [224 + p / 4096, 128 + p / 64 % 64, 128 + p % 64] else [240 + p / 262144, 128 + p / 4096 % 64, 128 + p / 64 % 64, 128 + p % 64]
theorem utf8_told (p : Int) (h0 : 0 ≤ p) (h1 : p ≤ 2097151) : Pl2Decode.spec_l2Utf8.f p = some (u8M p) := by
  have a1 : bits .and .i64 p 63 = p % 64 := Pl.and_mask .i64 6 (by decide) p
  have a2 : bits .and .i64 (p / 64) 63 = p / 64 % 64 := Pl.and_mask .i64 6 (by decide) _
  have a3 : bits .and .i64 (p / 4096) 63 = p / 4096 % 64 := Pl.and_mask .i64 6 (by decide) _
  unfold Pl2Decode.spec_l2Utf8.f u8M
  rw [a1, a2, a3]
  by_cases c1 : p < 128
  · rw [if_pos c1, if_pos c1, show p % 256 = p by omega]
  · rw [if_neg c1, if_neg c1]
    by_cases c2 : p < 2048
    · rw [if_pos c2, if_pos c2, or_hi 6 192 (p / 64) (by omega) (by decide) (by omega) (by omega) (by omega), or_hi 6 128 (p % 64) (by omega) (by decide) (by omega) (by omega) (by omega), show (192 + p / 64) % 256 = 192 + p / 64 by omega, show (128 + p % 64) % 256 = 128 + p % 64 by omega]
    · rw [if_neg c2, if_neg c2]
      by_cases c3 : p < 65536
      · rw [if_pos c3, if_pos c3, or_hi 5 224 (p / 4096) (by omega) (by decide) (by omega) (by omega) (by omega), or_hi 6 128 (p / 64 % 64) (by omega) (by decide) (by omega) (by omega) (by omega), or_hi 6 128 (p % 64) (by omega) (by decide) (by omega) (by omega) (by omega), show (224 + p / 4096) % 256 = 224 + p / 4096 by omega, show (128 + p / 64 % 64) % 256 = 128 + p / 64 % 64 by omega, show (128 + p % 64) % 256 = 128 + p % 64 by omega]
      · rw [if_neg c3, if_neg c3, or_hi 4 240 (p / 262144) (by omega) (by decide) (by omega) (by omega) (by omega), or_hi 6 128 (p / 4096 % 64) (by omega) (by decide) (by omega) (by omega) (by omega), or_hi 6 128 (p / 64 % 64) (by omega) (by decide) (by omega) (by omega) (by omega), or_hi 6 128 (p % 64) (by omega) (by decide) (by omega) (by omega) (by omega), show (240 + p / 262144) % 256 = 240 + p / 262144 by omega, show (128 + p / 4096 % 64) % 256 = 128 + p / 4096 % 64 by omega, show (128 + p / 64 % 64) % 256 = 128 + p / 64 % 64 by omega, show (128 + p % 64) % 256 = 128 + p % 64 by omega]
theorem u8M_bytes (p : Int) (h0 : 0 ≤ p) (h1 : p ≤ 2097151) : ∀ x ∈ u8M p, 0 ≤ x ∧ x < 256 := by
  unfold u8M
  split
  · intro x hx; simp at hx; omega
  · split
    · intro x hx; simp at hx; omega
    · split
      · intro x hx; simp at hx; omega
      · intro x hx; simp at hx; omega
/-- The first n bytes. -/
def front (s : ByteArray) (n : Nat) : List Int := (List.range n).map fun (i : Nat) => bt s (i : Int)
theorem bytesOf_strOfNums (l : List Int) (h : ∀ x ∈ l, 0 ≤ x ∧ x < 256) : bytesOf (strOfNums l) = l := by
  unfold bytesOf strOfNums
  simp only [List.map_map]
  apply List.ext_getElem
  · simp
  · intro i h1 h2
    simp only [List.getElem_map, Function.comp_apply]
    have := h l[i] (List.getElem_mem h2)
    simp
    omega
theorem bytesOf_front (s : ByteArray) (n : Nat) (h : n ≤ s.size) : bytesOf (s.extract 0 n) = front s n := by
  unfold bytesOf front
  rw [ByteArray.data_extract]
  apply List.ext_getElem
  · simp; omega
  · intro i h1 h2
    simp at h1 h2
    have hi : i < s.size := by omega
    have := bt_at s (i : Int) (by simpa using hi)
    simp only [List.getElem_map, List.getElem_range, ← this]
    simp [ByteArray.getElem_eq_getElem_data]
theorem front_test (s : ByteArray) (n : Nat) (h : n ≤ s.size) (l : List Int) (hl : ∀ x ∈ l, 0 ≤ x ∧ x < 256) : ((strOfNums l).toList = (s.extract 0 n).toList) = (l = front s n) := by
  rw [Lib.toList_data, Lib.toList_data]
  apply propext
  constructor
  · intro e
    have : bytesOf (strOfNums l) = bytesOf (s.extract 0 n) := by unfold bytesOf; rw [e]
    rwa [bytesOf_strOfNums l hl, bytesOf_front s n h] at this
  · intro e
    have e2 : bytesOf (strOfNums l) = bytesOf (s.extract 0 n) := by rw [bytesOf_strOfNums l hl, bytesOf_front s n h, e]
    unfold bytesOf at e2
    have inj : ∀ (a b : List UInt8), a.map (fun b => (b.toNat : Int)) = b.map (fun b => (b.toNat : Int)) → a = b := by
      intro a
      induction a with
      | nil => intro b hb; cases b with | nil => rfl | cons => simp at hb
      | cons x a ih =>
        intro b hb
        cases b with
        | nil => simp at hb
        | cons y b =>
          simp only [List.map_cons, List.cons.injEq] at hb
          have : x = y := by
            have := hb.1
            exact UInt8.toNat_inj.1 (by omega)
          rw [this, ih b hb.2]
    exact inj _ _ e2
section
open Pl2Decode
theorem l0_step (k : Nat) (s : ByteArray) (n p i : Int) (h1 : i < n) (h0 : 0 ≤ i) (hi : i ≤ 10) (h2 : i < (s.size : Int)) (p0 : 0 ≤ p) (p1 : p < 1099511627776) : spec_l2One.l0 (k + 1) s n p i = spec_l2One.l0 k s n (p * 64 + bt s i % 64) (i + 1) := by
  have hb := bt_range s i
  have a1 : bits .and .u8 (bt s i) 63 = bt s i % 64 := Pl.and_mask .u8 6 (by decide) _
  rw [spec_l2One.l0, if_pos h1, if_pos h0, if_pos h2, a1, Pl.w64 (n := i + 1) (by omega) (by omega), Pl.w64 (n := p * 64) (by omega) (by omega), Pl.w64 (n := bt s i % 64) (by omega) (by omega), or_hi 6 (p * 64) (bt s i % 64) (by omega) (by omega) (by omega) (by omega) (by omega)]
theorem l0_end (k : Nat) (s : ByteArray) (n : Nat) (p i : Int) (h : ¬ i < n) (p0 : 0 ≤ p) (p1 : p ≤ 2097151) (hn : n ≤ s.size) : spec_l2One.l0 (k + 1) s n p i = some (if u8M p = front s n then (p, (n : Int)) else (0, 0)) := by
  rw [spec_l2One.l0, if_neg h, utf8_told p p0 p1, Option.bind_some, if_pos (by omega), if_pos (by omega), Int.toNat_natCast]
  have := front_test s n hn (u8M p) (u8M_bytes p p0 p1)
  by_cases c : u8M p = front s n
  · rw [if_pos (this.symm ▸ c), if_pos c]
  · rw [if_neg (this.symm ▸ c), if_neg c]
def oneN (s : ByteArray) (n : Nat) (p : Int) : Int × Int := if s.size < n then (0, 0) else if u8M p = front s n then (p, (n : Int)) else (0, 0)
def oneM (s : ByteArray) : Int × Int := if 240 ≤ bt s 0 then oneN s 4 (((bt s 0 % 8 * 64 + bt s 1 % 64) * 64 + bt s 2 % 64) * 64 + bt s 3 % 64) else if 224 ≤ bt s 0 then oneN s 3 ((bt s 0 % 16 * 64 + bt s 1 % 64) * 64 + bt s 2 % 64) else if 192 ≤ bt s 0 then oneN s 2 (bt s 0 % 32 * 64 + bt s 1 % 64) else oneN s 1 (bt s 0)
theorem one_told (s : ByteArray) (h : 0 < s.size) : Ev (fun k => spec_l2One.f k s) (oneM s) := by
  have hb0 := bt_range s 0
  have hb1 := bt_range s 1
  have hb2 := bt_range s 2
  have hb3 := bt_range s 3
  unfold spec_l2One.f oneM
  simp only [if_pos (show 0 < (s.size : Int) by omega)]
  have a3 : bits .and .i64 (wrap64 (bt s 0)) 7 = bt s 0 % 8 := by rw [Pl.w64 (by omega) (by omega)]; exact Pl.and_mask .i64 3 (by decide) _
  have a4 : bits .and .i64 (wrap64 (bt s 0)) 15 = bt s 0 % 16 := by rw [Pl.w64 (by omega) (by omega)]; exact Pl.and_mask .i64 4 (by decide) _
  have a5 : bits .and .i64 (wrap64 (bt s 0)) 31 = bt s 0 % 32 := by rw [Pl.w64 (by omega) (by omega)]; exact Pl.and_mask .i64 5 (by decide) _
  simp only [a3, a4, a5]
  by_cases c1 : 240 ≤ bt s 0
  · simp only [if_pos (show bt s 0 ≥ 240 from c1), if_pos c1]
    refine Pl.ev_const 6 fun k => ?_
    show spec_l2One.j0 (k + 5 + 1) s 4 _ = _
    rw [spec_l2One.j0]
    unfold oneN
    by_cases z : s.size < 4
    · rw [if_pos (by omega), if_pos z]
    · rw [if_neg (by omega), if_neg z]
      show spec_l2One.l0 (k + 4 + 1) s 4 _ 1 = _
      rw [l0_step (k + 4) s 4 _ 1 (by decide) (by decide) (by decide) (by omega) (by omega) (by omega)]
      show spec_l2One.l0 (k + 3 + 1) s 4 _ 2 = _
      rw [l0_step (k + 3) s 4 _ 2 (by decide) (by decide) (by decide) (by omega) (by omega) (by omega)]
      show spec_l2One.l0 (k + 2 + 1) s 4 _ 3 = _
      rw [l0_step (k + 2) s 4 _ 3 (by decide) (by decide) (by decide) (by omega) (by omega) (by omega)]
      show spec_l2One.l0 (k + 1 + 1) s ((4 : Nat) : Int) _ 4 = _
      rw [l0_end (k + 1) s 4 _ 4 (by decide) (by omega) (by omega) (by omega)]
  · simp only [if_neg (show ¬ bt s 0 ≥ 240 from c1), if_neg c1]
    by_cases c2 : 224 ≤ bt s 0
    · simp only [if_pos (show bt s 0 ≥ 224 from c2), if_pos c2]
      refine Pl.ev_const 6 fun k => ?_
      show spec_l2One.j0 (k + 5 + 1) s 3 _ = _
      rw [spec_l2One.j0]
      unfold oneN
      by_cases z : s.size < 3
      · rw [if_pos (by omega), if_pos z]
      · rw [if_neg (by omega), if_neg z]
        show spec_l2One.l0 (k + 4 + 1) s 3 _ 1 = _
        rw [l0_step (k + 4) s 3 _ 1 (by decide) (by decide) (by decide) (by omega) (by omega) (by omega)]
        show spec_l2One.l0 (k + 3 + 1) s 3 _ 2 = _
        rw [l0_step (k + 3) s 3 _ 2 (by decide) (by decide) (by decide) (by omega) (by omega) (by omega)]
        show spec_l2One.l0 (k + 2 + 1) s ((3 : Nat) : Int) _ 3 = _
        rw [l0_end (k + 2) s 3 _ 3 (by decide) (by omega) (by omega) (by omega)]
    · simp only [if_neg (show ¬ bt s 0 ≥ 224 from c2), if_neg c2]
      by_cases c3 : 192 ≤ bt s 0
      · simp only [if_pos (show bt s 0 ≥ 192 from c3), if_pos c3]
        refine Pl.ev_const 6 fun k => ?_
        show spec_l2One.j0 (k + 5 + 1) s 2 _ = _
        rw [spec_l2One.j0]
        unfold oneN
        by_cases z : s.size < 2
        · rw [if_pos (by omega), if_pos z]
        · rw [if_neg (by omega), if_neg z]
          show spec_l2One.l0 (k + 4 + 1) s 2 _ 1 = _
          rw [l0_step (k + 4) s 2 _ 1 (by decide) (by decide) (by decide) (by omega) (by omega) (by omega)]
          show spec_l2One.l0 (k + 3 + 1) s ((2 : Nat) : Int) _ 2 = _
          rw [l0_end (k + 3) s 2 _ 2 (by decide) (by omega) (by omega) (by omega)]
      · simp only [if_neg (show ¬ bt s 0 ≥ 192 from c3), if_neg c3]
        refine Pl.ev_const 6 fun k => ?_
        show spec_l2One.j0 (k + 5 + 1) s 1 _ = _
        rw [spec_l2One.j0]
        unfold oneN
        rw [if_neg (by omega), if_neg (by omega), Pl.w64 (by omega) (by omega)]
        show spec_l2One.l0 (k + 4 + 1) s ((1 : Nat) : Int) _ 1 = _
        rw [l0_end (k + 4) s 1 _ 1 (by decide) (by omega) (by omega) (by omega)]
end
/-! ### Go's own decoder -/
theorem get_bt (s : ByteArray) (i : Nat) : bt s (i : Int) = ((s.get! i).toNat : Int) ∧ (s.get! i).toNat < 256 := by
  refine ⟨?_, (s.get! i).toNat_lt⟩
  unfold bt
  rw [Int.toNat_natCast]
  split
  · rename_i h
    congr 2
    rw [ByteArray.get!, ByteArray.getElem_eq_getElem_data]
    exact (getElem!_pos s.data i h).symm
  · rename_i h
    have : s.get! i = default := by
      rw [ByteArray.get!]
      exact getElem!_neg s.data i h
    rw [this]; rfl
def goodB (p : Int) : Bool := decide (0 ≤ p ∧ p ≤ 1114111 ∧ (p < 55296 ∨ 57343 < p))
/-- What the program makes of Go's decoder's answer. -/
def goM (s : ByteArray) : Int × Int := if ((Lib.decodeGo s).1 : Int) = 65533 ∧ ((Lib.decodeGo s).2 : Int) ≤ 1 then (0, 0) else ((Lib.decodeGo s).1, (Lib.decodeGo s).2)
/-- Like, where what the reference reads is a good point; else nothing. -/
def Like (o g : Int × Int) : Prop := if o.2 ≠ 0 ∧ goodB o.1 = true then g = o else g = (0, 0)
theorem like_ok {o g : Int × Int} (h : o.2 ≠ 0) (h2 : goodB o.1 = true) (e : g = o) : Like o g := by unfold Like; rw [if_pos ⟨h, h2⟩]; exact e
theorem like_no {o g : Int × Int} (h : o.2 = 0 ∨ goodB o.1 = false) (e : g = (0, 0)) : Like o g := by
  unfold Like
  rw [if_neg]
  · exact e
  · rintro ⟨h1, h2⟩
    rcases h with h | h
    · exact h1 h
    · rw [h] at h2; cases h2
theorem good_dec {p : Int} : goodB p = true ↔ (0 ≤ p ∧ p ≤ 1114111 ∧ (p < 55296 ∨ 57343 < p)) := by unfold goodB; exact decide_eq_true_iff
theorem bad_dec {p : Int} : goodB p = false ↔ ¬ (0 ≤ p ∧ p ≤ 1114111 ∧ (p < 55296 ∨ 57343 < p)) := by unfold goodB; exact decide_eq_false_iff_not
def goN (n b0 b1 b2 b3 : Nat) : Int × Int := if ((Lib.decodeN n b0 b1 b2 b3).1 : Int) = 65533 ∧ ((Lib.decodeN n b0 b1 b2 b3).2 : Int) ≤ 1 then (0, 0) else ((Lib.decodeN n b0 b1 b2 b3).1, (Lib.decodeN n b0 b1 b2 b3).2)
theorem goN_of {n b0 b1 b2 b3 p k : Nat} (h : Lib.decodeN n b0 b1 b2 b3 = (p, k)) : goN n b0 b1 b2 b3 = if (p : Int) = 65533 ∧ (k : Int) ≤ 1 then (0, 0) else ((p : Int), (k : Int)) := by unfold goN; rw [h]
set_option maxRecDepth 20000 in
set_option maxHeartbeats 1000000 in
theorem go_1 (n b0 b1 b2 b3 : Nat) (h : b0 < 192) : Like (if u8M b0 = [(b0 : Int)] then ((b0 : Int), 1) else (0, 0)) (goN n b0 b1 b2 b3) := by
  by_cases c : b0 < 128
  · have e : u8M (b0 : Int) = [(b0 : Int)] := by unfold u8M; rw [if_pos (by omega)]
    have d : Lib.decodeN n b0 b1 b2 b3 = (b0, 1) := by unfold Lib.decodeN; rw [if_pos c]
    rw [if_pos e, goN_of d]
    refine like_ok (by simp) (good_dec.2 (by simp only; omega)) ?_
    rw [if_neg (by omega)]; rfl
  · have e : ¬ u8M (b0 : Int) = [(b0 : Int)] := by unfold u8M; rw [if_neg (by omega), if_pos (by omega)]; simp
    have d : Lib.decodeN n b0 b1 b2 b3 = (65533, 1) := by unfold Lib.decodeN; rw [if_neg c, if_neg (by omega), if_neg (by omega), if_neg (by omega)]
    rw [if_neg e, goN_of d]
    exact like_no (.inl rfl) (by decide)
set_option maxRecDepth 20000 in
set_option maxHeartbeats 1000000 in
theorem go_2 (n b0 b1 b2 b3 : Nat) (h : 192 ≤ b0 ∧ b0 < 224) (h1 : b1 < 256) (hz : n < 2 → b1 = 0) : Like (if n < 2 then (0, 0) else if u8M ((b0 : Int) % 32 * 64 + (b1 : Int) % 64) = [(b0 : Int), (b1 : Int)] then ((b0 : Int) % 32 * 64 + (b1 : Int) % 64, 2) else (0, 0)) (goN n b0 b1 b2 b3) := by
  by_cases c : 1 < n ∧ b1 / 64 = 2 ∧ 128 ≤ b0 % 32 * 64 + b1 % 64
  · have e : u8M ((b0 : Int) % 32 * 64 + (b1 : Int) % 64) = [(b0 : Int), (b1 : Int)] := by
      unfold u8M; rw [if_neg (by omega), if_pos (by omega)]
      simp only [List.cons.injEq, and_true]
      omega
    have d : Lib.decodeN n b0 b1 b2 b3 = (b0 % 32 * 64 + b1 % 64, 2) := by unfold Lib.decodeN; rw [if_neg (by omega), if_pos (by omega), if_pos (by omega)]
    rw [if_neg (by omega), if_pos e, goN_of d]
    refine like_ok (by simp) (good_dec.2 (by simp only; omega)) ?_
    rw [if_neg (by omega)]; rfl
  · have d : Lib.decodeN n b0 b1 b2 b3 = (65533, 1) := by
      unfold Lib.decodeN
      rw [if_neg (by omega)]
      by_cases k : b0 / 32 = 6 ∧ (1 < n ∧ b1 / 64 = 2)
      · rw [if_pos k, if_neg (by omega)]
      · rw [if_neg k, if_neg (by omega), if_neg (by omega)]
    rw [goN_of d]
    refine like_no (.inl ?_) (by decide)
    by_cases z : n < 2
    · rw [if_pos z]
    · rw [if_neg z, if_neg]
      intro e
      unfold u8M at e
      split at e
      · simp at e
      · rw [if_pos (by omega)] at e
        simp only [List.cons.injEq, and_true] at e
        omega
set_option maxHeartbeats 2000000 in
theorem go_3 (n b0 b1 b2 b3 : Nat) (h : 224 ≤ b0 ∧ b0 < 240) (h1 : b1 < 256) (h2 : b2 < 256) : Like (if n < 3 then (0, 0) else if u8M (((b0 : Int) % 16 * 64 + (b1 : Int) % 64) * 64 + (b2 : Int) % 64) = [(b0 : Int), (b1 : Int), (b2 : Int)] then (((b0 : Int) % 16 * 64 + (b1 : Int) % 64) * 64 + (b2 : Int) % 64, 3) else (0, 0)) (goN n b0 b1 b2 b3) := by
  obtain ⟨p, hp⟩ : ∃ p : Nat, p = b0 % 16 * 4096 + b1 % 64 * 64 + b2 % 64 := ⟨_, rfl⟩
  have hpi : ((b0 : Int) % 16 * 64 + (b1 : Int) % 64) * 64 + (b2 : Int) % 64 = (p : Int) := by omega
  rw [hpi]
  by_cases c : 2 < n ∧ b1 / 64 = 2 ∧ b2 / 64 = 2 ∧ 2048 ≤ p
  · have e : u8M (p : Int) = [(b0 : Int), (b1 : Int), (b2 : Int)] := by
      unfold u8M; rw [if_neg (by omega), if_neg (by omega), if_pos (by omega)]
      simp only [List.cons.injEq, and_true]
      omega
    rw [if_neg (by omega), if_pos e]
    by_cases g : p < 55296 ∨ 57344 ≤ p
    · have d : Lib.decodeN n b0 b1 b2 b3 = (p, 3) := by unfold Lib.decodeN; rw [← hp, if_neg (by omega), if_neg (by omega), if_pos (by omega), if_pos (by omega)]
      rw [goN_of d]
      refine like_ok (by simp) (good_dec.2 (by simp only; omega)) ?_
      rw [if_neg (by omega)]; rfl
    · have d : Lib.decodeN n b0 b1 b2 b3 = (65533, 1) := by unfold Lib.decodeN; rw [← hp, if_neg (by omega), if_neg (by omega), if_pos (by omega), if_neg (by omega)]
      rw [goN_of d]
      exact like_no (.inr (bad_dec.2 (by simp only; omega))) (by decide)
  · have d : Lib.decodeN n b0 b1 b2 b3 = (65533, 1) := by
      unfold Lib.decodeN
      rw [← hp, if_neg (by omega), if_neg (by omega)]
      by_cases k : b0 / 16 = 14 ∧ (1 < n ∧ b1 / 64 = 2) ∧ (2 < n ∧ b2 / 64 = 2)
      · rw [if_pos k, if_neg (by omega)]
      · rw [if_neg k, if_neg (by omega)]
    rw [goN_of d]
    refine like_no (.inl ?_) (by decide)
    by_cases z : n < 3
    · rw [if_pos z]
    · rw [if_neg z, if_neg]
      intro e
      unfold u8M at e
      split at e
      · simp at e
      · split at e
        · simp at e
        · rw [if_pos (by omega)] at e
          simp only [List.cons.injEq, and_true] at e
          omega
set_option maxHeartbeats 4000000 in
theorem go_4 (n b0 b1 b2 b3 : Nat) (h : 240 ≤ b0 ∧ b0 < 256) (h1 : b1 < 256) (h2 : b2 < 256) (h3 : b3 < 256) : Like (if n < 4 then (0, 0) else if u8M ((((b0 : Int) % 8 * 64 + (b1 : Int) % 64) * 64 + (b2 : Int) % 64) * 64 + (b3 : Int) % 64) = [(b0 : Int), (b1 : Int), (b2 : Int), (b3 : Int)] then ((((b0 : Int) % 8 * 64 + (b1 : Int) % 64) * 64 + (b2 : Int) % 64) * 64 + (b3 : Int) % 64, 4) else (0, 0)) (goN n b0 b1 b2 b3) := by
  obtain ⟨p, hp⟩ : ∃ p : Nat, p = b0 % 8 * 262144 + b1 % 64 * 4096 + b2 % 64 * 64 + b3 % 64 := ⟨_, rfl⟩
  have hpi : (((b0 : Int) % 8 * 64 + (b1 : Int) % 64) * 64 + (b2 : Int) % 64) * 64 + (b3 : Int) % 64 = (p : Int) := by omega
  rw [hpi]
  by_cases c : 3 < n ∧ b0 < 248 ∧ b1 / 64 = 2 ∧ b2 / 64 = 2 ∧ b3 / 64 = 2 ∧ 65536 ≤ p
  · have e : u8M (p : Int) = [(b0 : Int), (b1 : Int), (b2 : Int), (b3 : Int)] := by
      unfold u8M; rw [if_neg (by omega), if_neg (by omega), if_neg (by omega)]
      simp only [List.cons.injEq, and_true]
      omega
    rw [if_neg (by omega), if_pos e]
    by_cases g : p ≤ 1114111
    · have d : Lib.decodeN n b0 b1 b2 b3 = (p, 4) := by unfold Lib.decodeN; rw [← hp, if_neg (by omega), if_neg (by omega), if_neg (by omega), if_pos (by omega), if_pos (by omega)]
      rw [goN_of d]
      refine like_ok (by simp) (good_dec.2 (by simp only; omega)) ?_
      rw [if_neg (by omega)]; rfl
    · have d : Lib.decodeN n b0 b1 b2 b3 = (65533, 1) := by unfold Lib.decodeN; rw [← hp, if_neg (by omega), if_neg (by omega), if_neg (by omega), if_pos (by omega), if_neg (by omega)]
      rw [goN_of d]
      exact like_no (.inr (bad_dec.2 (by simp only; omega))) (by decide)
  · have d : Lib.decodeN n b0 b1 b2 b3 = (65533, 1) := by
      unfold Lib.decodeN
      rw [← hp, if_neg (by omega), if_neg (by omega), if_neg (by omega)]
      by_cases k : b0 / 8 = 30 ∧ (1 < n ∧ b1 / 64 = 2) ∧ (2 < n ∧ b2 / 64 = 2) ∧ (3 < n ∧ b3 / 64 = 2)
      · rw [if_pos k, if_neg (by omega)]
      · rw [if_neg k]
    rw [goN_of d]
    refine like_no (.inl ?_) (by decide)
    by_cases z : n < 4
    · rw [if_pos z]
    · rw [if_neg z, if_neg]
      intro e
      unfold u8M at e
      split at e
      · simp at e
      · split at e
        · simp at e
        · split at e
          · simp at e
          · simp only [List.cons.injEq, and_true] at e
            omega
set_option maxRecDepth 20000 in
theorem one_go (s : ByteArray) (h : 0 < s.size) : Like (oneM s) (goM s) := by
  obtain ⟨e0, l0⟩ := get_bt s 0
  obtain ⟨e1, l1⟩ := get_bt s 1
  obtain ⟨e2, l2⟩ := get_bt s 2
  obtain ⟨e3, l3⟩ := get_bt s 3
  have hg : goM s = goN s.size (s.get! 0).toNat (s.get! 1).toNat (s.get! 2).toNat (s.get! 3).toNat := by
    have hd : Lib.decodeGo s = Lib.decodeN s.size (s.get! 0).toNat (s.get! 1).toNat (s.get! 2).toNat (s.get! 3).toNat := by
      unfold Lib.decodeGo
      rw [if_neg (by omega), Lib.decode_at, Nat.sub_zero]
    unfold goM goN
    rw [hd]
  rw [hg]
  unfold oneM oneN front
  simp only [List.range, List.range.loop, List.map_cons, List.map_nil]
  have z1 : s.size < 2 → (s.get! 1).toNat = 0 := fun hz => by
    have : s.get! 1 = default := by
      rw [ByteArray.get!]
      exact getElem!_neg s.data 1 (by have : s.data.size = s.size := rfl; show ¬ 1 < s.data.size; omega)
    rw [this]; rfl
  rw [show ((0 : Nat) : Int) = 0 from rfl] at *
  simp only [show ((1 : Nat) : Int) = 1 from rfl, show ((2 : Nat) : Int) = 2 from rfl, show ((3 : Nat) : Int) = 3 from rfl] at *
  rw [e0, e1, e2, e3]
  generalize (s.get! 0).toNat = b0 at *
  generalize (s.get! 1).toNat = b1 at *
  generalize (s.get! 2).toNat = b2 at *
  generalize (s.get! 3).toNat = b3 at *
  by_cases c1 : (240 : Int) ≤ (b0 : Int)
  · rw [if_pos c1]; exact go_4 s.size b0 b1 b2 b3 (by omega) l1 l2 l3
  · rw [if_neg c1]
    by_cases c2 : (224 : Int) ≤ (b0 : Int)
    · rw [if_pos c2]; exact go_3 s.size b0 b1 b2 b3 (by omega) l1 l2
    · rw [if_neg c2]
      by_cases c3 : (192 : Int) ≤ (b0 : Int)
      · rw [if_pos c3]; exact go_2 s.size b0 b1 b2 b3 (by omega) l1 z1
      · rw [if_neg c3, if_neg (by omega)]; exact go_1 s.size b0 b1 b2 b3 (by omega)
end Go.Proofs.YtchjmkofdiejhaaDoor.OwnDcP
