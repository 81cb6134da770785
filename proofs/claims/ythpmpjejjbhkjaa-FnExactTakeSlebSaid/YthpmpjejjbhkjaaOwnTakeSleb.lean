/- TakeSleb: a walk of our own of the program's function and of the statement's, over the printed walk of the reference's; condition: a length that can be read. -/
import Derived.Test.YthpmpjejjbhkjaaPFnExactTakeSlebx1
import Derived.Test.YthpmpjejjbhkjaaPlain4
import Derived.WalkKit
import Derived.Lib.Hide
namespace Go.Proofs.Ythpmpjejjbhkjaa.OwnTakeSleb
open Go Go.RowKit Go.Proofs.YthpmpjejjbhkjaaW.PrintWords Go.Proofs.YthpmpjejjbhkjaaW.PrintLast Go.Proofs.YthpmpjejjbhkjaaW.PrintMore Go.Proofs.Ythpmpjejjbhkjaa.PFnExactTakeSleb
set_option linter.unusedVariables false
set_option linter.unusedSimpArgs false
theorem l1In_told (a b c : Int) : spec_l1In.f a b c = some (decide (b ≤ a ∧ a ≤ c)) := by
  unfold spec_l1In.f
  by_cases h : b ≤ a <;> simp [h]

/-! ### Reading signed numbers: what both loops come to -/
/-- A byte's low part as a signed number. -/
def sg (p : Int) : Int := if p ≥ 64 then p - 128 else p
/-- The bits beyond the width are not the sign's. -/
def odd (p : Int) (left : Int) : Bool := decide (left < 7) && (decide (sg p / 2 ^ (left - 1).toNat ≠ 0) && decide (sg p / 2 ^ (left - 1).toNat ≠ -1))
/-- The reading, as a list of rounds: (m rounds left, the place i, what was read). -/
def rdS (s : ByteArray) (wd : Int) : Nat → Nat → Int → Int × Int
  | 0, _, _ => (0, 0)
  | m + 1, i, n => if (i : Int) < s.size then
      (if bt s i < 128 then (if odd (bt s i % 128) (wd - 7 * i) then (0, 0) else (n + sg (bt s i % 128) * 2 ^ (7 * i), (i : Int) + 1))
       else rdS s wd m (i + 1) (n + (bt s i % 128) * 2 ^ (7 * i)))
    else (0, 0)
theorem sg_and (p : Int) (h0 : 0 ≤ p) (h1 : p < 128) : bits .and .u64 p 64 = 0 ↔ p < 64 := by
  have key : ∀ v : Fin 128, bits .and .u64 (v.val : Int) 64 = 0 ↔ (v.val : Int) < 64 := by decide +kernel
  have h := key ⟨p.toNat, by omega⟩
  simp only [Int.toNat_of_nonneg h0] at h
  exact h
theorem odd_spec (p left : Int) (h0 : 0 ≤ p) (h1 : p < 128) (l1 : 1 ≤ left) (l7 : left < 7) :
    (decide (p / 2 ^ (left - 1).toNat ≠ 0) && decide (p / 2 ^ (left - 1).toNat ≠ 127 / 2 ^ (left - 1).toNat)) = (decide (sg p / 2 ^ (left - 1).toNat ≠ 0) && decide (sg p / 2 ^ (left - 1).toNat ≠ -1)) := by
  have key : ∀ (v : Fin 128) (l : Fin 6), (decide ((v.val : Int) / 2 ^ l.val ≠ 0) && decide ((v.val : Int) / 2 ^ l.val ≠ 127 / 2 ^ l.val)) = (decide (sg (v.val : Int) / 2 ^ l.val ≠ 0) && decide (sg (v.val : Int) / 2 ^ l.val ≠ -1)) := by decide +kernel
  have h := key ⟨p.toNat, by omega⟩ ⟨(left - 1).toNat, by omega⟩
  simp only [Int.toNat_of_nonneg h0] at h
  exact h
theorem pw (i : Nat) (hi : i ≤ 8) : (0 : Int) < 2 ^ (7 * i) ∧ (2 : Int) ^ (7 * i) ≤ 72057594037927936 ∧ (2 : Int) ^ (7 * (i + 1)) = 128 * 2 ^ (7 * i) := by
  obtain rfl | rfl | rfl | rfl | rfl | rfl | rfl | rfl | rfl : i = 0 ∨ i = 1 ∨ i = 2 ∨ i = 3 ∨ i = 4 ∨ i = 5 ∨ i = 6 ∨ i = 7 ∨ i = 8 := by omega
  all_goals decide
theorem mulP (p P : Int) (h0 : 0 ≤ p) (h1 : p < 128) (hP : 0 < P) : 0 ≤ p * P ∧ p * P ≤ 127 * P := ⟨Int.mul_nonneg h0 (by omega), Int.mul_le_mul_of_nonneg_right (by omega) (by omega)⟩
/-- What a round reads more, at the first nine places. -/
theorem or_more (i : Nat) (hi : i ≤ 8) (n p : Int) (hn0 : 0 ≤ n) (hn1 : n < 2 ^ (7 * i)) (h0 : 0 ≤ p) (h1 : p < 128) : bits .or .u64 n (shl .u64 p ((7 * i : Nat) : Int)) = n + p * 2 ^ (7 * i) ∧ n + p * 2 ^ (7 * i) < 2 ^ (7 * (i + 1)) := by
  obtain ⟨q1, q2, q3⟩ := pw i hi
  have hm := mulP p _ h0 h1 q1
  have e : shl .u64 p ((7 * i : Nat) : Int) = p * 2 ^ (7 * i) := by
    rw [Pl.shl_at _ _ _ (show 7 * i ≤ 64 by omega), Pl.wrap_u64]
    omega
  constructor
  · rw [e, Pl.or_join .u64 (7 * i) (show 7 * i ≤ 64 by omega) n _ hn0 hn1 (Int.mul_emod_left _ _), Pl.wrap_u64]
    omega
  · rw [q3]; omega
/-- The sign, spread. -/
theorem or_sign (i : Nat) (hi : i ≤ 8) (n p : Int) (hn0 : 0 ≤ n) (hn1 : n < 2 ^ (7 * i)) (h0 : 64 ≤ p) (h1 : p < 128) :
    wrap64 (bits .or .u64 (n + p * 2 ^ (7 * i)) (shl .u64 18446744073709551615 ((7 * (i + 1) : Nat) : Int))) = n + (p - 128) * 2 ^ (7 * i) := by
  obtain ⟨q1, q2, q3⟩ := pw i hi
  have hm := mulP p _ (by omega) h1 q1
  have hl : 64 * 2 ^ (7 * i) ≤ p * 2 ^ (7 * i) := Int.mul_le_mul_of_nonneg_right h0 (by omega)
  have e : shl .u64 18446744073709551615 ((7 * (i + 1) : Nat) : Int) = 18446744073709551616 - 2 ^ (7 * (i + 1)) := by
    rw [Pl.shl_at _ _ _ (show 7 * (i + 1) ≤ 64 by omega), Pl.wrap_u64]
    omega
  have hdvd : (18446744073709551616 - (2 : Int) ^ (7 * (i + 1))) % 2 ^ (7 * (i + 1)) = 0 := by
    have hd : ((2 : Int) ^ (7 * (i + 1))) ∣ 18446744073709551616 := ⟨2 ^ (64 - 7 * (i + 1)), by rw [← Int.pow_add, show 7 * (i + 1) + (64 - 7 * (i + 1)) = 64 by omega]; decide⟩
    exact Int.emod_eq_zero_of_dvd (Int.dvd_sub hd (Int.dvd_refl _))
  rw [e, Pl.or_join .u64 (7 * (i + 1)) (show 7 * (i + 1) ≤ 64 by omega) _ _ (by omega) (by omega) hdvd, Pl.wrap_u64, Int.sub_mul]
  unfold wrap64
  omega

theorem sg_lo (p : Int) (h : p < 64) : sg p = p := by unfold sg; rw [if_neg (by omega)]
theorem sg_hi (p : Int) (h : 64 ≤ p) : sg p = p - 128 := by unfold sg; rw [if_pos h]
/-- The last byte: what the reference makes of it. -/
theorem fin_spec (s : ByteArray) (i : Nat) (hi : i ≤ 9) (n p left : Int) (hn0 : 0 ≤ n) (hn1 : n < 2 ^ (7 * i)) (h0 : 0 ≤ p) (h1 : p < 128) (hl : i = 9 → left = 1) (hodd : odd p left = false) :
    (if wrap64 (7 * wrap64 ((i : Int) + 1)) < 64 then (if bits .and .u64 p 64 = 0 then some (wrap64 (bits .or .u64 n (shl .u64 p ((7 * i : Nat) : Int))), wrap64 ((i : Int) + 1)) else (if 0 ≤ IntKind.u64.wrap (wrap64 (7 * wrap64 ((i : Int) + 1))) then some (wrap64 (bits .or .u64 (bits .or .u64 n (shl .u64 p ((7 * i : Nat) : Int))) (shl .u64 18446744073709551615 (IntKind.u64.wrap (wrap64 (7 * wrap64 ((i : Int) + 1)))))), wrap64 ((i : Int) + 1)) else none)) else some (wrap64 (bits .or .u64 n (shl .u64 p ((7 * i : Nat) : Int))), wrap64 ((i : Int) + 1)))
      = some (n + sg p * 2 ^ (7 * i), (i : Int) + 1) := by
  have e1 : wrap64 ((i : Int) + 1) = (i : Int) + 1 := Pl.w64 (by omega) (by omega)
  have e2 : wrap64 (7 * ((i : Int) + 1)) = ((7 * (i + 1) : Nat) : Int) := by rw [Pl.w64 (by omega) (by omega)]; omega
  rw [e1, e2]
  by_cases h9 : i ≤ 8
  · obtain ⟨q1, q2, q3⟩ := pw i h9
    have hm := mulP p _ h0 h1 q1
    obtain ⟨o1, o2⟩ := or_more i h9 n p hn0 hn1 h0 h1
    rw [if_pos (by omega)]; simp only [sg_and p h0 h1, o1]
    by_cases hp : p < 64
    · rw [if_pos hp, Pl.w64 (by omega) (by omega), sg_lo p hp]
    · rw [if_neg hp, Pl.wrap_u64, Int.emod_eq_of_lt (by omega) (by omega), if_pos (by omega), or_sign i h9 n p hn0 hn1 (by omega) h1, sg_hi p (by omega)]
  · obtain rfl : i = 9 := by omega
    rw [if_neg (by omega)]
    have hl1 := hl rfl
    subst hl1
    have key : ∀ v : Fin 128, odd (v.val : Int) 1 = false → (v.val : Int) = 0 ∨ (v.val : Int) = 127 := by decide +kernel
    have hk := key ⟨p.toNat, by omega⟩
    simp only [Int.toNat_of_nonneg h0] at hk
    rcases hk hodd with rfl | rfl
    · rw [show shl .u64 0 ((7 * 9 : Nat) : Int) = 0 by decide, Pl.or_join .u64 63 (by decide) n 0 hn0 (by simpa using hn1) (by decide), Pl.wrap_u64]
      have : n < 9223372036854775808 := by simpa using hn1
      rw [show sg 0 = 0 by decide, Int.add_zero, Int.emod_eq_of_lt hn0 (by omega), Pl.w64 (by omega) (by omega), Int.zero_mul, Int.add_zero]
    · rw [show shl .u64 127 ((7 * 9 : Nat) : Int) = 9223372036854775808 by decide, Pl.or_join .u64 63 (by decide) n _ hn0 (by simpa using hn1) (by decide), Pl.wrap_u64]
      have : n < 9223372036854775808 := by simpa using hn1
      rw [show sg 127 * 2 ^ (7 * 9) = -9223372036854775808 by decide, Int.emod_eq_of_lt (by omega) (by omega)]
      congr 2
      unfold wrap64
      omega
theorem takeS_spec (s : ByteArray) (wd : Int) (hb0 : 1 ≤ wd) (hb1 : wd ≤ 64) (hs : s.size ≤ 9223372036854775807) : ∀ (m i : Nat) (n : Int), (i : Int) + m = (wd + 6) / 7 → (m = 0 ∨ (0 ≤ n ∧ n < 2 ^ (7 * i))) →
    Ev (fun k => spec_l1TakeS.l0 k s wd ((wd + 6) / 7) n (i : Int)) (rdS s wd m i n) := by
  intro m
  induction m with
  | zero =>
    intro i n hi _
    refine Pl.ev_const 2 fun k => ?_
    simp only [spec_l1TakeS.l0]
    rw [if_neg (by omega)]
    simp only [spec_l1TakeS.j1]
    rw [if_neg (by decide)]
    rfl
  | succ m ih =>
    intro i n hi hn
    obtain ⟨hn0, hn1⟩ : 0 ≤ n ∧ n < 2 ^ (7 * i) := by omega
    have hi9 : i ≤ 9 := by omega
    have hlt : (i : Int) < (wd + 6) / 7 := by omega
    unfold rdS
    by_cases hin : (i : Int) < (s.size : Int)
    · rw [if_pos hin]
      have e7 : wrap64 (7 * (i : Int)) = ((7 * i : Nat) : Int) := by rw [Pl.w64 (by omega) (by omega)]; omega
      have eu7 : IntKind.u64.wrap ((7 * i : Nat) : Int) = ((7 * i : Nat) : Int) := by rw [Pl.wrap_u64]; omega
      have eb := bt_range s (i : Int)
      have ep : bits .and .u8 (bt s (i : Int)) 127 = bt s (i : Int) % 128 := Pl.and127 .u8 (by decide) _
      have eup : IntKind.u64.wrap (bt s (i : Int) % 128) = bt s (i : Int) % 128 := by rw [Pl.wrap_u64]; omega
      have p0 : 0 ≤ bt s (i : Int) % 128 := by omega
      have p1 : bt s (i : Int) % 128 < 128 := by omega
      have el : wrap64 (wd - ((7 * i : Nat) : Int)) = wd - 7 * i := by rw [Pl.w64 (by omega) (by omega)]; omega
      have el1 : wrap64 (wd - 7 * i - 1) = wd - 7 * i - 1 := Pl.w64 (by omega) (by omega)
      have eul : IntKind.u64.wrap (wd - 7 * i - 1) = wd - 7 * i - 1 := by rw [Pl.wrap_u64]; omega
      have elt : wd - 7 * i - 1 = ((wd - 7 * i - 1).toNat : Int) := by omega
      by_cases hc : bt s (i : Int) < 128
      · rw [if_pos hc]
        by_cases hl : wd - 7 * i < 7
        · have sh : ∀ x : Int, shr .u64 x (wd - 7 * i - 1) = x / 2 ^ (wd - 7 * i - 1).toNat := fun x => by rw [elt, Pl.shr_at .u64 x _ (show (wd - 7 * i - 1).toNat ≤ 64 by omega), Int.toNat_natCast]
          have od := odd_spec (bt s (i : Int) % 128) (wd - 7 * i) p0 p1 (by omega) hl
          have oe : odd (bt s (i : Int) % 128) (wd - 7 * i) = (decide (bt s (i : Int) % 128 / 2 ^ (wd - 7 * i - 1).toNat ≠ 0) && decide (bt s (i : Int) % 128 / 2 ^ (wd - 7 * i - 1).toNat ≠ 127 / 2 ^ (wd - 7 * i - 1).toNat)) := by
            rw [od]; unfold odd; rw [decide_eq_true hl, Bool.true_and]
          have j2t : ∀ k, spec_l1TakeS.j2 (k + 1) (bits .or .u64 n (shl .u64 (bt s (i : Int) % 128) ((7 * i : Nat) : Int))) (i : Int) (bt s (i : Int) % 128) (odd (bt s (i : Int) % 128) (wd - 7 * i)) = some (if odd (bt s (i : Int) % 128) (wd - 7 * i) = true then (0, 0) else (n + sg (bt s (i : Int) % 128) * 2 ^ (7 * i), (i : Int) + 1)) := by
            intro k
            simp only [spec_l1TakeS.j2]
            by_cases ho : odd (bt s (i : Int) % 128) (wd - 7 * i) = true
            · rw [if_pos ho, if_pos ho]
            · rw [if_neg ho, if_neg ho]
              exact fin_spec s i hi9 n _ (wd - 7 * i) hn0 hn1 p0 p1 (by omega) (Bool.eq_false_iff.2 ho)
          refine Pl.ev_const 3 fun k => ?_
          simp only [spec_l1TakeS.l0]
          rw [if_pos hlt, decide_eq_true hin]
          simp only [spec_l1TakeS.j1, if_true, e7, eu7, ep, eup, el, el1, eul, sh]
          rw [if_pos (by omega), if_pos hin, if_pos (by omega), if_neg (by omega), if_pos hl, if_pos (by omega)]
          by_cases hz : bt s (i : Int) % 128 / 2 ^ (wd - 7 * i - 1).toNat = 0
          · rw [if_pos hz]
            have : odd (bt s (i : Int) % 128) (wd - 7 * i) = false := by rw [oe, decide_eq_false (by omega), Bool.false_and]
            rw [← this]
            exact j2t k
          · rw [if_neg hz]
            have : (bt s (i : Int) % 128 / 2 ^ (wd - 7 * i - 1).toNat != 127 / 2 ^ (wd - 7 * i - 1).toNat) = odd (bt s (i : Int) % 128) (wd - 7 * i) := by
              rw [oe, decide_eq_true hz, Bool.true_and]
              rw [Bool.eq_iff_iff]; simp only [bne_iff_ne, ne_eq, decide_eq_true_eq]
            rw [this]
            exact j2t k
        · have ho : odd (bt s (i : Int) % 128) (wd - 7 * i) = false := by unfold odd; rw [decide_eq_false hl, Bool.false_and]
          refine Pl.ev_const 2 fun k => ?_
          simp only [spec_l1TakeS.l0]
          rw [if_pos hlt, decide_eq_true hin]
          simp only [spec_l1TakeS.j1, if_true, e7, eu7, ep, eup, el]
          rw [if_pos (by omega), if_pos hin, if_pos (by omega), if_neg (by omega), if_neg hl, ho]
          exact fin_spec s i hi9 n _ (wd - 7 * i) hn0 hn1 p0 p1 (by omega) ho
      · rw [if_neg hc]
        have step : ∀ k, spec_l1TakeS.l0 (k + 2) s wd ((wd + 6) / 7) n (i : Int) = spec_l1TakeS.l0 k s wd ((wd + 6) / 7) (bits .or .u64 n (shl .u64 (bt s (i : Int) % 128) ((7 * i : Nat) : Int))) ((i + 1 : Nat) : Int) := by
          intro k
          simp only [spec_l1TakeS.l0]
          rw [if_pos hlt, decide_eq_true hin]
          simp only [spec_l1TakeS.j1, if_true, e7, eu7, ep, eup]
          rw [if_pos (by omega), if_pos hin, if_pos (by omega), if_pos (by omega), Pl.w64 (n := (i : Int) + 1) (by omega) (by omega)]
          rfl
        rcases Nat.eq_zero_or_pos m with h0 | hp
        · subst h0
          exact Pl.ev_skip 2 step (ih (i + 1) _ (by omega) (.inl rfl))
        · obtain ⟨o1, o2⟩ := or_more i (by omega) n _ hn0 hn1 p0 p1
          refine Pl.ev_skip 2 step ?_
          rw [o1]
          have hm := mulP (bt s (i : Int) % 128) _ p0 p1 (pw i (by omega)).1
          exact ih (i + 1) _ (by omega) (.inr ⟨by omega, o2⟩)
    · rw [if_neg hin]
      refine Pl.ev_const 2 fun k => ?_
      simp only [spec_l1TakeS.l0]
      rw [if_pos hlt, decide_eq_false hin]
      simp only [spec_l1TakeS.j1]
      rw [if_neg (by decide)]

/-! ### The program's loop -/
/-- The last byte: what the program makes of it. -/
theorem or_i64 (i : Nat) (hi : i ≤ 9) (n p left : Int) (hn0 : 0 ≤ n) (hn1 : n < 2 ^ (7 * i)) (h0 : 0 ≤ p) (h1 : p < 128) (hl : i = 9 → left = 1) (hodd : odd p left = false) :
    bits .or .i64 n (wrap64 (sg p * 2 ^ (7 * i))) = n + sg p * 2 ^ (7 * i) := by
  by_cases h9 : i ≤ 8
  · obtain ⟨q1, q2, q3⟩ := pw i h9
    have hs : -64 ≤ sg p ∧ sg p < 64 := by unfold sg; split <;> omega
    have hm : -64 * 2 ^ (7 * i) ≤ sg p * 2 ^ (7 * i) ∧ sg p * 2 ^ (7 * i) ≤ 63 * 2 ^ (7 * i) := ⟨Int.mul_le_mul_of_nonneg_right hs.1 (by omega), Int.mul_le_mul_of_nonneg_right (by omega) (by omega)⟩
    have e : wrap64 (sg p * 2 ^ (7 * i)) = sg p * 2 ^ (7 * i) := Pl.w64 (by omega) (by omega)
    rw [e, Pl.or_join .i64 (7 * i) (show 7 * i ≤ 64 by omega) n _ hn0 hn1 (Int.mul_emod_left _ _), IntKind.wrap_i64]
    omega
  · obtain rfl : i = 9 := by omega
    have hl1 := hl rfl
    subst hl1
    have key : ∀ v : Fin 128, odd (v.val : Int) 1 = false → (v.val : Int) = 0 ∨ (v.val : Int) = 127 := by decide +kernel
    have hk := key ⟨p.toNat, by omega⟩
    simp only [Int.toNat_of_nonneg h0] at hk
    have hn2 : n < 9223372036854775808 := by simpa using hn1
    rcases hk hodd with rfl | rfl
    · rw [show wrap64 (sg 0 * 2 ^ (7 * 9)) = 0 by decide +kernel, Pl.or_join .i64 63 (by decide) n 0 hn0 (by simpa using hn1) (by decide), IntKind.wrap_i64, show sg 0 * 2 ^ (7 * 9) = 0 by decide]
      omega
    · rw [show wrap64 (sg 127 * 2 ^ (7 * 9)) = -9223372036854775808 by decide +kernel, Pl.or_join .i64 63 (by decide) n _ hn0 (by simpa using hn1) (by decide), IntKind.wrap_i64, show sg 127 * 2 ^ (7 * 9) = -9223372036854775808 by decide]
      omega
theorem last_eq (s : ByteArray) (wd : Int) (h64 : wd ≤ 64) (m i : Nat) (n : Int) (r : Int × Int) (hm : (i : Int) + ((m + 1 : Nat) : Int) = (wd + 6) / 7) (hr : rdS s wd (m + 1) i n = r) (hin : (i : Int) < s.size) (hn : m + 1 = 0 ∨ (0 ≤ n ∧ n < 2 ^ (7 * i)))
    (hb : bt s (i : Int) < 128) (ho : odd (bt s (i : Int) % 128) (wd - 7 * i) = false) : bits .or .i64 n (wrap64 (sg (bt s (i : Int) % 128) * 2 ^ (7 * i))) = r.1 ∧ (i : Int) + 1 = r.2 := by
  have eb := bt_range s (i : Int)
  unfold rdS at hr
  rw [if_pos hin, if_pos hb, if_neg (by rw [ho]; decide)] at hr
  subst hr
  obtain ⟨n0, n1⟩ : 0 ≤ n ∧ n < 2 ^ (7 * i) := by omega
  exact ⟨or_i64 i (by omega) n _ (wd - 7 * i) n0 n1 (by omega) (by omega) (by omega) ho, rfl⟩
theorem bad_eq (s : ByteArray) (wd : Int) (m i : Nat) (n : Int) (r : Int × Int) (hm : (i : Int) + ((m + 1 : Nat) : Int) = (wd + 6) / 7) (hr : rdS s wd (m + 1) i n = r) (hin : (i : Int) < s.size)
    (ho : odd (bt s (i : Int) % 128) (wd - 7 * i) = true) : r.1 = 0 ∧ r.2 = 0 := by
  have hl : wd - 7 * i < 7 := by
    unfold odd at ho
    simp only [Bool.and_eq_true, decide_eq_true_eq] at ho
    exact ho.1
  unfold rdS at hr
  rw [if_pos hin, if_pos ho] at hr
  by_cases hb : bt s (i : Int) < 128
  · rw [if_pos hb] at hr; subst hr; exact ⟨rfl, rfl⟩
  · rw [if_neg hb] at hr
    obtain rfl : m = 0 := by omega
    unfold rdS at hr; subst hr; exact ⟨rfl, rfl⟩
theorem more_eq (s : ByteArray) (wd : Int) (h64 : wd ≤ 64) (m i : Nat) (n : Int) (r : Int × Int) (hm : (i : Int) + ((m + 1 : Nat) : Int) = (wd + 6) / 7) (hr : rdS s wd (m + 1) i n = r) (hin : (i : Int) < s.size) (hn : m + 1 = 0 ∨ (0 ≤ n ∧ n < 2 ^ (7 * i)))
    (hb : ¬ bt s (i : Int) < 128) : Hid (rdS s wd m (i + 1) (bits .or .i64 n (wrap64 (bt s (i : Int) % 128 * 2 ^ (7 * i)))) = r) ∧ (m = 0 ∨ (0 ≤ bits .or .i64 n (wrap64 (bt s (i : Int) % 128 * 2 ^ (7 * i))) ∧ bits .or .i64 n (wrap64 (bt s (i : Int) % 128 * 2 ^ (7 * i))) < 2 ^ (7 * (i + 1)))) := by
  have eb := bt_range s (i : Int)
  unfold rdS at hr
  rw [if_pos hin, if_neg hb] at hr
  rcases Nat.eq_zero_or_pos m with rfl | hp
  · refine ⟨Lib.hid ?_, .inl rfl⟩
    unfold rdS at hr ⊢
    exact hr
  · obtain ⟨n0, n1⟩ : 0 ≤ n ∧ n < 2 ^ (7 * i) := by omega
    obtain ⟨q1, q2, q3⟩ := pw i (by omega)
    have hm' := mulP (bt s (i : Int) % 128) _ (by omega) (by omega) q1
    have e : bits .or .i64 n (wrap64 (bt s (i : Int) % 128 * 2 ^ (7 * i))) = n + bt s (i : Int) % 128 * 2 ^ (7 * i) := by
      rw [Pl.w64 (by omega) (by omega), Pl.or_join .i64 (7 * i) (show 7 * i ≤ 64 by omega) n _ n0 n1 (Int.mul_emod_left _ _), IntKind.wrap_i64]
      omega
    rw [e]
    exact ⟨Lib.hid hr, .inr ⟨by omega, by rw [q3]; omega⟩⟩
theorem ret2 {k k' : IntKind} {a b c d : Int} (h : a = c ∧ b = d) : Ending.returned (.tuple #[.int k a, .int k' b]) = .returned (.tuple #[.int k c, .int k' d]) := by rw [h.1, h.2]
set_option maxRecDepth 100000 in
set_option maxHeartbeats 4000000 in
theorem impl_in (s : ByteArray) (wd : Int) (w : World) (h1 : 1 ≤ wd) (h64 : wd ≤ 64) (hs : s.size ≤ 9223372036854775807) (r : Int × Int) (hr : rdS s wd ((wd + 6) / 7).toNat 0 0 = r) :
    Calls Try.prog 26 #[.string s, .int .i64 wd] w fun e w' => e = .returned (.tuple #[.int .i64 r.1, .int .i64 r.2]) ∧ Drawn0 w w' := by
  have H := Lib.hid hr
  clear hr
  go_enter Try.func26, Try.ntmps26
  go_wp2
  go_loop [6, 7] (fun vn vi => ∃ (m i : Nat) (n : Int), (i : Int) + m = (wd + 6) / 7 ∧ vn = .int .i64 n ∧ vi = .int .i64 i ∧ Hid (rdS s wd m i n = r) ∧ (m = 0 ∨ (0 ≤ n ∧ n < 2 ^ (7 * i)))) (fun _ vi => 11 - (intOf vi).toNat)
  case atStart => exact ⟨((wd + 6) / 7).toNat, 0, 0, by omega, rfl, rfl, H, .inr (by decide)⟩
  case round =>
    clear H
    obtain ⟨m, i, n, hm, rfl, rfl, H, hn⟩ := hrel
    by_cases hin : (i : Int) < (s.size : Int)
    · rcases m with _ | m
      · have c1 : decide ((i : Int) < (wd + 6) / 7) = false := decide_eq_false (by omega)
        obtain ⟨b1, b2⟩ := r
        obtain ⟨rfl, rfl⟩ := Prod.mk.inj H.out
        clear hn
        as_aux_lemma =>
          go_wp2
          go_ret2
          exact ⟨rfl, Drawn0.refl _⟩
      · have hlt : (i : Int) < (wd + 6) / 7 := by omega
        have c1 : decide ((i : Int) < (wd + 6) / 7) = true := decide_eq_true hlt
        have c2 : decide ((i : Int) < (s.size : Int)) = true := decide_eq_true hin
        have hin' : i < s.size := by omega
        have c3 : decide (i < s.size) = true := decide_eq_true hin'
        have ebt : Hid ((s[i].toNat : Int) = bt s (i : Int)) := Lib.hid (bt_at s (i : Int) (by omega))
        obtain ⟨p, ep0⟩ : ∃ p, bt s (i : Int) % 128 = p := ⟨_, rfl⟩
        have p0 : 0 ≤ p := by omega
        have p1 : p < 128 := by omega
        have ep := Lib.hid ep0
        have e1 : wrap64 (bits .and .u8 (s[i].toNat : Int) 127) = p := by rw [ebt.out, Pl.and127 .u8 (by decide), ep0, Pl.w64 (by omega) (by omega)]
        clear ep0
        have Hn := Lib.hid hn
        clear hn
        have Hm := Lib.hid hm
        clear hm
        by_cases hp : 64 ≤ p
        · have d1 : decide (64 ≤ p) = true := decide_eq_true hp
          have hsg : Hid (sg p = p - 128) := Lib.hid (sg_hi p hp)
          obtain ⟨z, ez⟩ : ∃ z, (p - 128) / 2 ^ ((wd - 7 * (i : Int)).toNat - 1) = z := ⟨_, rfl⟩
          by_cases hl : wd - 7 * (i : Int) < 7
          · have d2 : decide (wd - 7 * (i : Int) < 7) = true := decide_eq_true hl
            by_cases hz0 : z = 0
            · subst hz0
              have ho : odd p (wd - 7 * i) = false := by unfold odd; rw [hsg.out, show (wd - 7 * (i : Int) - 1).toNat = (wd - 7 * (i : Int)).toNat - 1 by omega, ez]; simp
              by_cases hb : bt s (i : Int) < 128
              · have d3 : decide ((s[i].toNat : Int) < 128) = true := by rw [ebt.out]; exact decide_eq_true hb
                have d4 : decide (s[i].toNat < 128) = true := by have := ebt.out; exact decide_eq_true (by omega)
                have B := Lib.hid (last_eq s wd h64 m i n r Hm.out H.out hin Hn.out hb (by rw [ep.out]; exact ho))
                have B2 : Hid (bits .or .i64 n (wrap64 ((p - 128) * 2 ^ (7 * i))) = r.1 ∧ (i : Int) + 1 = r.2) := Lib.hid (by have := B.out; rw [ep.out, hsg.out] at this; exact this)
                clear ho hb hl B
                as_aux_lemma =>
                  go_wp2
                  go_ret2
                  exact ⟨ret2 B2.out, Drawn0.refl _⟩
              · have d3 : decide ((s[i].toNat : Int) < 128) = false := by rw [ebt.out]; exact decide_eq_false hb
                have d4 : decide (s[i].toNat < 128) = false := by have := ebt.out; exact decide_eq_false (by omega)
                have B := Lib.hid (more_eq s wd h64 m i n r Hm.out H.out hin Hn.out hb)
                rw [ep.out] at B
                clear ho hb hl
                as_aux_lemma =>
                  go_wp2
                  go_round
                  case rel => exact ⟨m, i + 1, _, by have := Hm.out; omega, rfl, by go_num, B.out.1, B.out.2⟩
                  case measure => simp [intOf]; omega
            · by_cases hz1 : z = -1
              · subst hz1
                have ho : odd p (wd - 7 * i) = false := by unfold odd; rw [hsg.out, show (wd - 7 * (i : Int) - 1).toNat = (wd - 7 * (i : Int)).toNat - 1 by omega, ez]; simp
                by_cases hb : bt s (i : Int) < 128
                · have d3 : decide ((s[i].toNat : Int) < 128) = true := by rw [ebt.out]; exact decide_eq_true hb
                  have d4 : decide (s[i].toNat < 128) = true := by have := ebt.out; exact decide_eq_true (by omega)
                  have B := Lib.hid (last_eq s wd h64 m i n r Hm.out H.out hin Hn.out hb (by rw [ep.out]; exact ho))
                  have B2 : Hid (bits .or .i64 n (wrap64 ((p - 128) * 2 ^ (7 * i))) = r.1 ∧ (i : Int) + 1 = r.2) := Lib.hid (by have := B.out; rw [ep.out, hsg.out] at this; exact this)
                  clear ho hb hl B
                  as_aux_lemma =>
                    go_wp2
                    go_ret2
                    exact ⟨ret2 B2.out, Drawn0.refl _⟩
                · have d3 : decide ((s[i].toNat : Int) < 128) = false := by rw [ebt.out]; exact decide_eq_false hb
                  have d4 : decide (s[i].toNat < 128) = false := by have := ebt.out; exact decide_eq_false (by omega)
                  have B := Lib.hid (more_eq s wd h64 m i n r Hm.out H.out hin Hn.out hb)
                  rw [ep.out] at B
                  clear ho hb hl
                  as_aux_lemma =>
                    go_wp2
                    go_round
                    case rel => exact ⟨m, i + 1, _, by have := Hm.out; omega, rfl, by go_num, B.out.1, B.out.2⟩
                    case measure => simp [intOf]; omega
              · have ho : odd p (wd - 7 * i) = true := by unfold odd; rw [hsg.out, show (wd - 7 * (i : Int) - 1).toNat = (wd - 7 * (i : Int)).toNat - 1 by omega, ez]; simp [hl, hz0, hz1]
                have z1 : (z == 0) = false := beq_eq_false_iff_ne.2 hz0
                have z2 : (z != 0) = true := bne_iff_ne.2 hz0
                have z3 : (z == -1) = false := beq_eq_false_iff_ne.2 hz1
                have z4 : (z != -1) = true := bne_iff_ne.2 hz1
                have B := Lib.hid (bad_eq s wd m i n r Hm.out H.out hin (by rw [ep.out]; exact ho))
                clear ho hz0 hz1 hl
                as_aux_lemma =>
                  go_wp2
                  go_ret2
                  exact ⟨ret2 ⟨B.out.1.symm, B.out.2.symm⟩, Drawn0.refl _⟩
          · have d2 : decide (wd - 7 * (i : Int) < 7) = false := decide_eq_false hl
            have ho : odd p (wd - 7 * i) = false := by unfold odd; rw [d2, Bool.false_and]
            by_cases hb : bt s (i : Int) < 128
            · have d3 : decide ((s[i].toNat : Int) < 128) = true := by rw [ebt.out]; exact decide_eq_true hb
              have d4 : decide (s[i].toNat < 128) = true := by have := ebt.out; exact decide_eq_true (by omega)
              have B := Lib.hid (last_eq s wd h64 m i n r Hm.out H.out hin Hn.out hb (by rw [ep.out]; exact ho))
              have B2 : Hid (bits .or .i64 n (wrap64 ((p - 128) * 2 ^ (7 * i))) = r.1 ∧ (i : Int) + 1 = r.2) := Lib.hid (by have := B.out; rw [ep.out, hsg.out] at this; exact this)
              clear ho hb hl B
              as_aux_lemma =>
                go_wp2
                go_ret2
                exact ⟨ret2 B2.out, Drawn0.refl _⟩
            · have d3 : decide ((s[i].toNat : Int) < 128) = false := by rw [ebt.out]; exact decide_eq_false hb
              have d4 : decide (s[i].toNat < 128) = false := by have := ebt.out; exact decide_eq_false (by omega)
              have B := Lib.hid (more_eq s wd h64 m i n r Hm.out H.out hin Hn.out hb)
              rw [ep.out] at B
              clear ho hb hl
              as_aux_lemma =>
                go_wp2
                go_round
                case rel => exact ⟨m, i + 1, _, by have := Hm.out; omega, rfl, by go_num, B.out.1, B.out.2⟩
                case measure => simp [intOf]; omega
        · have d1 : decide (64 ≤ p) = false := decide_eq_false hp
          have hsg : Hid (sg p = p) := Lib.hid (sg_lo p (by omega))
          obtain ⟨z, ez⟩ : ∃ z, p / 2 ^ ((wd - 7 * (i : Int)).toNat - 1) = z := ⟨_, rfl⟩
          by_cases hl : wd - 7 * (i : Int) < 7
          · have d2 : decide (wd - 7 * (i : Int) < 7) = true := decide_eq_true hl
            by_cases hz0 : z = 0
            · subst hz0
              have ho : odd p (wd - 7 * i) = false := by unfold odd; rw [hsg.out, show (wd - 7 * (i : Int) - 1).toNat = (wd - 7 * (i : Int)).toNat - 1 by omega, ez]; simp
              by_cases hb : bt s (i : Int) < 128
              · have d3 : decide ((s[i].toNat : Int) < 128) = true := by rw [ebt.out]; exact decide_eq_true hb
                have d4 : decide (s[i].toNat < 128) = true := by have := ebt.out; exact decide_eq_true (by omega)
                have B := Lib.hid (last_eq s wd h64 m i n r Hm.out H.out hin Hn.out hb (by rw [ep.out]; exact ho))
                have B2 : Hid (bits .or .i64 n (wrap64 (p * 2 ^ (7 * i))) = r.1 ∧ (i : Int) + 1 = r.2) := Lib.hid (by have := B.out; rw [ep.out, hsg.out] at this; exact this)
                clear ho hb hl B
                as_aux_lemma =>
                  go_wp2
                  go_ret2
                  exact ⟨ret2 B2.out, Drawn0.refl _⟩
              · have d3 : decide ((s[i].toNat : Int) < 128) = false := by rw [ebt.out]; exact decide_eq_false hb
                have d4 : decide (s[i].toNat < 128) = false := by have := ebt.out; exact decide_eq_false (by omega)
                have B := Lib.hid (more_eq s wd h64 m i n r Hm.out H.out hin Hn.out hb)
                rw [ep.out] at B
                clear ho hb hl
                as_aux_lemma =>
                  go_wp2
                  go_round
                  case rel => exact ⟨m, i + 1, _, by have := Hm.out; omega, rfl, by go_num, B.out.1, B.out.2⟩
                  case measure => simp [intOf]; omega
            · by_cases hz1 : z = -1
              · subst hz1
                have ho : odd p (wd - 7 * i) = false := by unfold odd; rw [hsg.out, show (wd - 7 * (i : Int) - 1).toNat = (wd - 7 * (i : Int)).toNat - 1 by omega, ez]; simp
                by_cases hb : bt s (i : Int) < 128
                · have d3 : decide ((s[i].toNat : Int) < 128) = true := by rw [ebt.out]; exact decide_eq_true hb
                  have d4 : decide (s[i].toNat < 128) = true := by have := ebt.out; exact decide_eq_true (by omega)
                  have B := Lib.hid (last_eq s wd h64 m i n r Hm.out H.out hin Hn.out hb (by rw [ep.out]; exact ho))
                  have B2 : Hid (bits .or .i64 n (wrap64 (p * 2 ^ (7 * i))) = r.1 ∧ (i : Int) + 1 = r.2) := Lib.hid (by have := B.out; rw [ep.out, hsg.out] at this; exact this)
                  clear ho hb hl B
                  as_aux_lemma =>
                    go_wp2
                    go_ret2
                    exact ⟨ret2 B2.out, Drawn0.refl _⟩
                · have d3 : decide ((s[i].toNat : Int) < 128) = false := by rw [ebt.out]; exact decide_eq_false hb
                  have d4 : decide (s[i].toNat < 128) = false := by have := ebt.out; exact decide_eq_false (by omega)
                  have B := Lib.hid (more_eq s wd h64 m i n r Hm.out H.out hin Hn.out hb)
                  rw [ep.out] at B
                  clear ho hb hl
                  as_aux_lemma =>
                    go_wp2
                    go_round
                    case rel => exact ⟨m, i + 1, _, by have := Hm.out; omega, rfl, by go_num, B.out.1, B.out.2⟩
                    case measure => simp [intOf]; omega
              · have ho : odd p (wd - 7 * i) = true := by unfold odd; rw [hsg.out, show (wd - 7 * (i : Int) - 1).toNat = (wd - 7 * (i : Int)).toNat - 1 by omega, ez]; simp [hl, hz0, hz1]
                have z1 : (z == 0) = false := beq_eq_false_iff_ne.2 hz0
                have z2 : (z != 0) = true := bne_iff_ne.2 hz0
                have z3 : (z == -1) = false := beq_eq_false_iff_ne.2 hz1
                have z4 : (z != -1) = true := bne_iff_ne.2 hz1
                have B := Lib.hid (bad_eq s wd m i n r Hm.out H.out hin (by rw [ep.out]; exact ho))
                clear ho hz0 hz1 hl
                as_aux_lemma =>
                  go_wp2
                  go_ret2
                  exact ⟨ret2 ⟨B.out.1.symm, B.out.2.symm⟩, Drawn0.refl _⟩
          · have d2 : decide (wd - 7 * (i : Int) < 7) = false := decide_eq_false hl
            have ho : odd p (wd - 7 * i) = false := by unfold odd; rw [d2, Bool.false_and]
            by_cases hb : bt s (i : Int) < 128
            · have d3 : decide ((s[i].toNat : Int) < 128) = true := by rw [ebt.out]; exact decide_eq_true hb
              have d4 : decide (s[i].toNat < 128) = true := by have := ebt.out; exact decide_eq_true (by omega)
              have B := Lib.hid (last_eq s wd h64 m i n r Hm.out H.out hin Hn.out hb (by rw [ep.out]; exact ho))
              have B2 : Hid (bits .or .i64 n (wrap64 (p * 2 ^ (7 * i))) = r.1 ∧ (i : Int) + 1 = r.2) := Lib.hid (by have := B.out; rw [ep.out, hsg.out] at this; exact this)
              clear ho hb hl B
              as_aux_lemma =>
                go_wp2
                go_ret2
                exact ⟨ret2 B2.out, Drawn0.refl _⟩
            · have d3 : decide ((s[i].toNat : Int) < 128) = false := by rw [ebt.out]; exact decide_eq_false hb
              have d4 : decide (s[i].toNat < 128) = false := by have := ebt.out; exact decide_eq_false (by omega)
              have B := Lib.hid (more_eq s wd h64 m i n r Hm.out H.out hin Hn.out hb)
              rw [ep.out] at B
              clear ho hb hl
              as_aux_lemma =>
                go_wp2
                go_round
                case rel => exact ⟨m, i + 1, _, by have := Hm.out; omega, rfl, by go_num, B.out.1, B.out.2⟩
                case measure => simp [intOf]; omega
    · have c1 : decide ((i : Int) < (s.size : Int)) = false := decide_eq_false hin
      have c2 : decide (i < s.size) = false := decide_eq_false (by omega)
      have hr0 : rdS s wd m i n = (0, 0) := by
        cases m with
        | zero => rfl
        | succ m => unfold rdS; rw [if_neg hin]
      obtain ⟨b1, b2⟩ := r
      have H2 := H.out
      rw [hr0] at H2
      obtain ⟨rfl, rfl⟩ := Prod.mk.inj H2
      clear hn H2 hr0
      as_aux_lemma =>
        go_wp2
        go_ret2
        exact ⟨rfl, Drawn0.refl _⟩

theorem impl_out (s : ByteArray) (wd : Int) (w : World) (h : ¬ (1 ≤ wd ∧ wd ≤ 64)) : Calls Try.prog 26 #[.string s, .int .i64 wd] w fun e w' => e = .returned (.tuple #[.int .i64 0, .int .i64 0]) ∧ Drawn0 w w' := by
  by_cases h1 : wd < 1
  · have d1 : decide (wd < 1) = true := decide_eq_true h1
    clear h h1
    go_enter Try.func26, Try.ntmps26
    go_wp2
    go_ret2
    exact ⟨rfl, Drawn0.refl _⟩
  · have d1 : decide (wd < 1) = false := decide_eq_false h1
    have d2 : decide (64 < wd) = true := decide_eq_true (by omega)
    clear h h1
    go_enter Try.func26, Try.ntmps26
    go_wp2
    go_ret2
    exact ⟨rfl, Drawn0.refl _⟩
theorem both (s : ByteArray) (wd : Int) (hs : s.size ≤ 9223372036854775807) : ∃ r : Int × Int, ∀ w : World, (Calls Try.prog 25 #[.string s, .int .i64 wd] w fun e w' => e = .returned (.tuple #[.int .i64 r.1, .int .i64 r.2]) ∧ Drawn0 w w') ∧
    (Calls Try.prog 26 #[.string s, .int .i64 wd] w fun e w' => e = .returned (.tuple #[.int .i64 r.1, .int .i64 r.2]) ∧ Drawn0 w w') := by
  by_cases h : 1 ≤ wd ∧ wd ≤ 64
  · have e : Ev (fun k => spec_TakeSleb.f k s wd) (rdS s wd ((wd + 6) / 7).toNat 0 0) := by
      unfold spec_TakeSleb.f spec_l1TakeS.f
      simp only [l1In_told, Option.bind_some, decide_eq_true h, if_true]
      rw [Pl.w64 (n := wd + 6) (by omega) (by omega), Int.tdiv_eq_ediv_of_nonneg (by omega), Pl.w64 (n := (wd + 6) / 7) (by omega) (by omega)]
      exact (takeS_spec s wd h.1 h.2 hs ((wd + 6) / 7).toNat 0 0 (by omega) (.inr (by decide))).bind (Ev.now _)
    obtain ⟨k, hk⟩ := e.rounds
    exact ⟨_, fun w => ⟨spec_TakeSleb.calls k s wd _ _ w hk, impl_in s wd w h.1 h.2 hs _ rfl⟩⟩
  · have e : spec_TakeSleb.f 0 s wd = some (0, 0) := by
      unfold spec_TakeSleb.f
      simp only [l1In_told, Option.bind_some, decide_eq_false h]
      rfl
    exact ⟨(0, 0), fun w => ⟨spec_TakeSleb.calls 0 s wd _ _ w e, impl_out s wd w h⟩⟩
theorem law (s : ByteArray) (wd : Int) (w : World) : Calls Try.prog 6 #[.string s, .int .i64 wd] w fun e w' => e = .returned (.bool true) ∧ Drawn0 w w' := by
  by_cases h : 1048576 < s.size
  · have h1 : decide (1048576 < (s.size : Int)) = true := decide_eq_true (by omega)
    have h2 : decide (1048576 < s.size) = true := decide_eq_true h
    clear h
    go_enter Try.func6, Try.ntmps6
    go_wp2
    go_ret
    exact ⟨rfl, Drawn0.refl _⟩
  · obtain ⟨⟨r1, r2⟩, hc⟩ := both s wd (by omega)
    have h1 : decide (1048576 < (s.size : Int)) = false := decide_eq_false (by omega)
    have h2 : decide (1048576 < s.size) = false := decide_eq_false h
    clear h
    go_enter Try.func6, Try.ntmps6
    go_wp2_with (first | (go_at_call 25; refine (hc _).1.mono ?_; rintro e w1 ⟨rfl, ⟨m1, rfl⟩⟩) | (go_at_call 26; refine (hc _).2.mono ?_; rintro e w2 ⟨rfl, ⟨m2, rfl⟩⟩))
    go_ret
    exact ⟨by simp, by repeat (first | exact Drawn0.refl _ | apply Drawn0.step)⟩

end Go.Proofs.Ythpmpjejjbhkjaa.OwnTakeSleb
