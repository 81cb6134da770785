/- Unary operations on whole numbers: the reference told; no condition of its own. -/
import Derived.Test.YtfmmmfddpfddoaaDoorPlainA
import Derived.Test.YtfmmmfddpfddoaaDoorOwnPopP
import Derived.Test.YtfmmmfddpfddoaaDoorPUnaryx1
import Derived.Lib.ItoaNum
import Derived.Shelf.Spec.TrailingZeros
namespace Go.Proofs.YtfmmmfddpfddoaaDoor.OwnUnP
open Go Go.RowKit Go.Proofs.YtfmmmfddpfddoaaDoorW.PrintWords Go.Proofs.YtfmmmfddpfddoaaDoorW.PrintLast Go.Proofs.YtfmmmfddpfddoaaDoorW.PrintMore Go.Proofs.YtfmmmfddpfddoaaDoor.OwnPopP PUnary
set_option linter.unusedVariables false
set_option linter.unusedSimpArgs false
theorem bit_at (lo j : Nat) (hj : j ≤ 63) : bits .and .u64 (shr .u64 (lo : Int) (IntKind.u64.wrap (j : Int))) 1 = ((lo / 2 ^ j % 2 : Nat) : Int) := by
  have e : IntKind.u64.wrap (j : Int) = (j : Int) := by rw [IntKind.wrap_u64]; omega
  rw [e, Pl.shr_at .u64 (lo : Int) j (show j ≤ 64 by omega), Pl.and1 .u64 (by decide)]
  rw [Int.natCast_emod, Int.natCast_ediv, Int.natCast_pow]
  rfl
def cutM (k x : Int) : Int := if k = 32 then x % 4294967296 else x
theorem mask_told (k x : Int) : spec_l3Mask.f k x = some (cutM k x) := by
  unfold spec_l3Mask.f cutM
  by_cases h : k = 32
  · rw [if_pos h, if_pos h, show (4294967295 : Int) = 2 ^ 32 - 1 by decide, Pl.and_mask .u64 32 (by decide) _]; rfl
  · rw [if_neg h, if_neg h]
theorem cut_small (k x : Int) (h0 : 0 ≤ x) (h : x ≤ 64) : cutM k x = x := by unfold cutM; split <;> omega
theorem len_top (v j : Nat) (hj : j ≤ 63) (h1 : 2 ^ j ≤ v) (h2 : v < 2 ^ (j + 1)) : Lib.bitLen v = j + 1 := by
  have h3 := Lib.bitLen_le v (j + 1) (by omega) h2
  have hv : v < 2 ^ 64 := Nat.lt_of_lt_of_le h2 (Nat.pow_le_pow_right (by decide) (by omega))
  have h4 : v < 2 ^ Lib.bitLen v := (Lib.bitLenAux_bounds 64 v hv (by have := Nat.two_pow_pos j; omega)).2.2
  rcases Nat.lt_or_ge j (Lib.bitLen v) with c | c
  · omega
  · have := Nat.pow_le_pow_right (show 2 > 0 by decide) c
    omega
theorem clz_told (k : Int) (v : Nat) : ∀ (j c : Nat), j ≤ 64 → c + j ≤ 64 → v < 2 ^ j → Ev (fun K => spec_l3Unary.l0 K k (v : Int) (c : Int) ((j : Int) - 1)) ((((c + (j - Lib.bitLen v) : Nat) : Int)), 0)
  | 0, c, hj, hc, hv => by
    refine Pl.ev_const 1 fun K => ?_
    show spec_l3Unary.l0 (K + 1) _ _ _ _ = _
    obtain rfl : v = 0 := by omega
    rw [spec_l3Unary.l0, if_neg (by omega), mask_told, cut_small _ _ (by omega) (by omega)]
    simp [show Lib.bitLen 0 = 0 from rfl]
  | j + 1, c, hj, hc, hv => by
    have hb := bit_at v j (by omega)
    have e1 : ((j + 1 : Nat) : Int) - 1 = (j : Int) := by omega
    rw [e1]
    have hm : v % 2 ^ (j + 1) = v % 2 ^ j + 2 ^ j * (v / 2 ^ j % 2) := Nat.mod_pow_succ
    rw [Nat.mod_eq_of_lt hv] at hm
    have hlt := Nat.mod_lt v (Nat.two_pow_pos j)
    rcases Nat.mod_two_eq_zero_or_one (v / 2 ^ j) with z | z
    · rw [z] at hb hm
      have hv2 : v < 2 ^ j := by omega
      have ih := clz_told k v j (c + 1) (by omega) (by omega) hv2
      have hl := Lib.bitLen_le v j (by omega) hv2
      rw [show c + (j + 1 - Lib.bitLen v) = c + 1 + (j - Lib.bitLen v) by omega]
      refine Pl.ev_skip 1 (fun K => ?_) ih
      show spec_l3Unary.l0 (K + 1) _ _ _ _ = _
      rw [spec_l3Unary.l0, if_pos (by omega), if_pos (by rw [IntKind.wrap_u64]; omega), hb, if_pos (show ((0 : Nat) : Int) = 0 from rfl), Pl.w64 (n := (j : Int) - 1) (by omega) (by omega)]
      congr 1
      rw [IntKind.wrap_u64]; omega
    · rw [z] at hb hm
      have hl := len_top v j (by omega) (by omega) hv
      refine Pl.ev_const 1 fun K => ?_
      show spec_l3Unary.l0 (K + 1) _ _ _ _ = _
      rw [spec_l3Unary.l0, if_pos (by omega), if_pos (by rw [IntKind.wrap_u64]; omega), hb, if_neg (by decide), mask_told, cut_small _ _ (by omega) (by omega), hl]
      simp
theorem ctz_from : ∀ (i f v : Nat), v % 2 ^ i = 0 → Lib.ctzFrom (i + f) v = i + Lib.ctzFrom f (v / 2 ^ i)
  | 0, f, v, h => by simp
  | i + 1, f, v, h => by
    have hm : v % 2 ^ (i + 1) = v % 2 + 2 * (v / 2 % 2 ^ i) := by rw [Nat.pow_succ', Nat.mod_mul]
    have h1 : v % 2 = 0 := by omega
    have h2 : v / 2 % 2 ^ i = 0 := by omega
    have ih := ctz_from i f (v / 2) h2
    rw [show i + 1 + f = (i + f) + 1 by omega, Lib.ctzFrom, if_neg (by omega), ih, show v / 2 / 2 ^ i = v / 2 ^ (i + 1) by rw [Nat.div_div_eq_div_mul, Nat.pow_succ']]
    omega
theorem ctz_at (i v : Nat) (hi : i < 64) (h : v % 2 ^ i = 0) (h1 : v / 2 ^ i % 2 = 1) : Lib.ctz 64 v = i := by
  have hv : v ≠ 0 := by rintro rfl; simp at h1
  unfold Lib.ctz
  rw [if_neg hv, show (64 : Nat) = i + ((63 - i) + 1) by omega, ctz_from i _ v h, Lib.ctzFrom, if_pos h1]
  omega
def minC (k : Nat) (v : Nat) : Nat := if k < Lib.ctz 64 v then k else Lib.ctz 64 v
theorem ctz_told (k v : Nat) (hk : k = 32 ∨ k = 64) (hv : v < 2 ^ k) : ∀ (n i : Nat), i + n = k → v % 2 ^ i = 0 → Ev (fun K => spec_l3Unary.l1 K (k : Int) (v : Int) (i : Int) (i : Int)) (((minC k v : Nat) : Int), 0)
  | 0, i, hi, hz => by
    obtain rfl : i = k := by omega
    rw [Nat.mod_eq_of_lt hv] at hz
    subst hz
    refine Pl.ev_const 1 fun K => ?_
    show spec_l3Unary.l1 (K + 1) _ _ _ _ = _
    rw [spec_l3Unary.l1, if_neg (by omega), mask_told, cut_small _ _ (by omega) (by omega)]
    have : minC i 0 = i := by unfold minC; rw [show Lib.ctz 64 0 = 64 from rfl]; split <;> omega
    rw [this]; rfl
  | n + 1, i, hi, hz => by
    have hb := bit_at v i (by omega)
    have hm : v % 2 ^ (i + 1) = v % 2 ^ i + 2 ^ i * (v / 2 ^ i % 2) := Nat.mod_pow_succ
    rcases Nat.mod_two_eq_zero_or_one (v / 2 ^ i) with z | z
    · rw [z] at hb hm
      have ih := ctz_told k v hk hv n (i + 1) (by omega) (by omega)
      refine Pl.ev_skip 1 (fun K => ?_) ih
      show spec_l3Unary.l1 (K + 1) _ _ _ _ = _
      rw [spec_l3Unary.l1, if_pos (by omega), if_pos (by rw [IntKind.wrap_u64]; omega), hb, if_pos (show ((0 : Nat) : Int) = 0 from rfl), Pl.w64 (n := (i : Int) + 1) (by omega) (by omega), show IntKind.u64.wrap ((i : Int) + 1) = (i : Int) + 1 by rw [IntKind.wrap_u64]; omega]
      rfl
    · have hc := ctz_at i v (by omega) hz z
      rw [z] at hb
      refine Pl.ev_const 1 fun K => ?_
      show spec_l3Unary.l1 (K + 1) _ _ _ _ = _
      rw [spec_l3Unary.l1, if_pos (by omega), if_pos (by rw [IntKind.wrap_u64]; omega), hb, if_neg (by decide), mask_told, cut_small _ _ (by omega) (by omega)]
      have : minC k v = i := by unfold minC; rw [hc]; split <;> omega
      rw [this]; rfl
theorem pop_le : ∀ (n v : Nat), popN n v ≤ n
  | 0, v => Nat.le_refl _
  | n + 1, v => by have := pop_le n (v / 2); rw [popN]; omega
theorem pop_told (k v : Nat) (hk : k = 32 ∨ k = 64) : ∀ (n i c : Nat), i + n = k → c ≤ i → Ev (fun K => spec_l3Unary.l2 K (k : Int) (v : Int) (c : Int) (i : Int)) (((c + popN n (v / 2 ^ i) : Nat) : Int), 0)
  | 0, i, c, hi, hc => by
    refine Pl.ev_const 1 fun K => ?_
    show spec_l3Unary.l2 (K + 1) _ _ _ _ = _
    rw [spec_l3Unary.l2, if_neg (by omega), mask_told, cut_small _ _ (by omega) (by omega)]
    rfl
  | n + 1, i, c, hi, hc => by
    have hb := bit_at v i (by omega)
    have hlt : v / 2 ^ i % 2 < 2 := Nat.mod_lt _ (by decide)
    have ih := pop_told k v hk n (i + 1) (c + v / 2 ^ i % 2) (by omega) (by omega)
    rw [popN, Nat.div_div_eq_div_mul, ← Nat.pow_succ, ← Nat.add_assoc]
    refine Pl.ev_skip 1 (fun K => ?_) ih
    show spec_l3Unary.l2 (K + 1) _ _ _ _ = _
    rw [spec_l3Unary.l2, if_pos (by omega), if_pos (by rw [IntKind.wrap_u64]; omega), hb, Pl.w64 (n := (i : Int) + 1) (by omega) (by omega)]
    generalize v / 2 ^ i % 2 = b at *
    rw [show IntKind.u64.wrap ((c : Int) + (b : Int)) = ((c + b : Nat) : Int) by rw [IntKind.wrap_u64]; omega]
    rfl
theorem pop_zero : ∀ n, popN n 0 = 0
  | 0 => rfl
  | n + 1 => by rw [popN, Nat.zero_div, pop_zero n]
theorem pop_top : ∀ (n m v : Nat), v < 2 ^ n → popN (n + m) v = popN n v
  | 0, m, v, h => by
    have hz : v = 0 := by simpa using h
    rw [hz, pop_zero, pop_zero]
  | n + 1, m, v, h => by
    rw [show n + 1 + m = (n + m) + 1 by omega, popN, popN, pop_top n m (v / 2) (by rw [Nat.pow_succ] at h; omega)]
def R (k : Nat) (op : Int) (v : Nat) : Int := if op = 22 then ((k - Lib.bitLen v : Nat) : Int) else if op = 23 then ((minC k v : Nat) : Int) else if op = 24 then ((popN 64 v : Nat) : Int) else if op = 25 then (if v = 0 then 1 else 0) else if op = 26 then cutM k (IntKind.u64.wrap (wrap64 (IntKind.i8.wrap ((v : Int) % 256)))) else cutM k (IntKind.u64.wrap (wrap64 (IntKind.i16.wrap (IntKind.u16.wrap (v : Int)))))
theorem told (k : Nat) (op : Int) (a v : Nat) (hk : k = 32 ∨ k = 64) (h1 : 22 ≤ op) (h2 : op ≤ 27) (hv : cutM k a = v) (hv2 : v < 2 ^ k) : Ev (fun K => spec_Unary.f K (k : Int) op (a : Int)) (R k op v, 0) := by
  have hb : spec_l3Bits.f (k : Int) = some true := by unfold spec_l3Bits.f; rcases hk with rfl | rfl <;> rfl
  have hl : Ev (fun K => spec_l3Unary.f K (k : Int) op (a : Int)) (R k op v, 0) := by
    unfold spec_l3Unary.f R
    simp only [mask_told, hv, Option.bind_some]
    by_cases c : op = 22
    · simp only [if_pos c]
      have := clz_told k v k 0 (by omega) (by omega) hv2
      rw [Nat.zero_add] at this
      rw [Pl.w64 (n := (k : Int) - 1) (by omega) (by omega)]
      exact this
    by_cases c : op = 23
    · simp only [if_neg (show ¬ op = 22 by omega), if_pos c]
      exact ctz_told k v hk hv2 k 0 (by omega) (by simp [Nat.mod_one])
    by_cases c : op = 24
    · simp only [if_neg (show ¬ op = 22 by omega), if_neg (show ¬ op = 23 by omega), if_pos c]
      have := pop_told k v hk k 0 0 (by omega) (by omega)
      rw [Nat.pow_zero, Nat.div_one, Nat.zero_add] at this
      rcases hk with rfl | rfl
      · rw [show (64 : Nat) = 32 + 32 from rfl, pop_top 32 32 v hv2]; exact this
      · exact this
    by_cases c : op = 25
    · simp only [if_neg (show ¬ op = 22 by omega), if_neg (show ¬ op = 23 by omega), if_neg (show ¬ op = 24 by omega), if_pos c]
      by_cases z : v = 0
      · subst z
        refine Pl.ev_const 0 fun K => ?_
        show (spec_l3Yes.f true).bind _ = _
        rw [show spec_l3Yes.f true = some 1 from rfl]
        show some (cutM k 1, (0 : Int)) = _
        rw [cut_small _ _ (by decide) (by decide)]; rfl
      · refine Pl.ev_const 0 fun K => ?_
        show (spec_l3Yes.f ((v : Int) == 0)).bind _ = _
        rw [show ((v : Int) == 0) = false from beq_eq_false_iff_ne.2 (by omega), show spec_l3Yes.f false = some 0 from rfl, if_neg z]
        show some (cutM k 0, (0 : Int)) = _
        rw [cut_small _ _ (by decide) (by decide)]
    by_cases c : op = 26
    · simp only [if_neg (show ¬ op = 22 by omega), if_neg (show ¬ op = 23 by omega), if_neg (show ¬ op = 24 by omega), if_neg (show ¬ op = 25 by omega), if_pos c]
      refine Pl.ev_const 0 fun K => ?_
      rfl
    · simp only [if_neg (show ¬ op = 22 by omega), if_neg (show ¬ op = 23 by omega), if_neg (show ¬ op = 24 by omega), if_neg (show ¬ op = 25 by omega), if_neg (show ¬ op = 26 by omega), if_pos (show op = 27 by omega)]
      refine Pl.ev_const 0 fun K => ?_
      rfl
  unfold spec_Unary.f
  simp only [hb, Option.bind_some, if_true]
  obtain ⟨K, h⟩ := hl
  exact ⟨K, fun m hm => by show (spec_l3Unary.f m k op a).bind _ = _; rw [show spec_l3Unary.f m k op a = _ from h m hm]; rfl⟩
end Go.Proofs.YtfmmmfddpfddoaaDoor.OwnUnP
