/- For every input that the given statement FnExactSlebBytes lets in, the statement's function comes to true: what the program's function gives is what the reference's gives; no condition beside the statement's own. -/
import Derived.Test.YtbchlolgphnmnaaPFnExactSlebBytesx1
import Derived.Test.YtbchlolgphnmnaaPlain
namespace Go.Proofs.Ytbchlolgphnmnaa.Pure
open Go.RowKit Go.Proofs.Ytbchlolgphnmnaa.PFnExactSlebBytes Go.Proofs.YtbchlolgphnmnaaW.PrintWords Go.Proofs.YtbchlolgphnmnaaW.PrintLast
open Go
open Go.Proofs.YtbchlolgphnmnaaW.PrintMore
set_option linter.unusedVariables false
set_option linter.unusedSimpArgs false

/-! ### Signed numbers in bytes: both loops are one text, and they end -/
theorem sleb_same : ∀ (k : Nat) (x : Int) (acc : List Int), spec_l1Sleb.l0 k x acc = impl_SlebBytes.l0 k x acc
  | 0, _, _ => rfl
  | k + 1, x, acc => by
    simp only [spec_l1Sleb.l0, impl_SlebBytes.l0, sleb_same k]
theorem sleb_low (x : Int) : bits .and .u8 ((bits .and .i64 x 127) % 256) 64 = 0 ↔ x % 128 < 64 := by
  have key : ∀ v : Fin 128, bits .and .u8 (v.val : Int) 64 = 0 ↔ (v.val : Int) < 64 := by decide +kernel
  have h := key ⟨(x % 128).toNat, by omega⟩
  rw [Pl.and127 .i64 (by decide), show x % 128 % 256 = x % 128 by omega]
  simp only [Int.toNat_of_nonneg (show 0 ≤ x % 128 by omega)] at h
  exact h
theorem sleb_ends : ∀ (m : Nat) (x : Int) (acc : List Int), - (64 * 128 ^ m) ≤ x → x < 64 * 128 ^ m → acc.length + m < 140737488355328 →
    ∃ r : ByteArray, (∀ k, m < k → spec_l1Sleb.l0 k x acc = some r) ∧ r.size ≤ acc.length + m + 1
  | 0, x, acc, h0, h1, hl => by
    refine ⟨strOfNums (acc ++ [(bits .and .i64 x 127) % 256]), fun k hk => ?_, by rw [Pl.strOfNums_size]; simp only [List.length_append, List.length_singleton]; omega⟩
    obtain ⟨k, rfl⟩ : ∃ j, k = j + 1 := ⟨k - 1, by omega⟩
    simp only [spec_l1Sleb.l0, sleb_low]
    by_cases hx : 0 ≤ x
    · rw [if_pos (by omega), if_pos (by omega), if_pos (by omega)]
    · rw [if_neg (by omega), if_pos (by omega), if_neg (by omega), if_pos (by omega)]
  | m + 1, x, acc, h0, h1, hl => by
    have hd : - (64 * 128 ^ m) ≤ x / 128 ∧ x / 128 < 64 * 128 ^ m := by
      rw [Int.pow_succ] at h0 h1
      omega
    obtain ⟨r, hr, hs⟩ := sleb_ends m (x / 128) (acc ++ [bits .or .u8 ((bits .and .i64 x 127) % 256) 128]) hd.1 hd.2 (by simp only [List.length_append, List.length_singleton]; omega)
    simp only [List.length_append, List.length_singleton] at hs
    by_cases c1 : x / 128 = 0
    · by_cases c2 : x % 128 < 64
      · refine ⟨strOfNums (acc ++ [(bits .and .i64 x 127) % 256]), fun k hk => ?_, by rw [Pl.strOfNums_size]; simp only [List.length_append, List.length_singleton]; omega⟩
        obtain ⟨k, rfl⟩ : ∃ j, k = j + 1 := ⟨k - 1, by omega⟩
        simp only [spec_l1Sleb.l0, sleb_low]
        rw [if_pos c1, if_pos c2, if_pos (by omega)]
      · refine ⟨r, fun k hk => ?_, by omega⟩
        obtain ⟨k, rfl⟩ : ∃ j, k = j + 1 := ⟨k - 1, by omega⟩
        simp only [spec_l1Sleb.l0, sleb_low]
        rw [if_pos c1, if_neg c2, if_neg (by omega), if_pos (by omega)]
        exact hr k (by omega)
    · by_cases c3 : x / 128 = -1
      · by_cases c2 : x % 128 < 64
        · refine ⟨r, fun k hk => ?_, by omega⟩
          obtain ⟨k, rfl⟩ : ∃ j, k = j + 1 := ⟨k - 1, by omega⟩
          simp only [spec_l1Sleb.l0, sleb_low]
          rw [if_neg c1, if_pos c3, if_pos c2, if_pos (by omega)]
          exact hr k (by omega)
        · refine ⟨strOfNums (acc ++ [(bits .and .i64 x 127) % 256]), fun k hk => ?_, by rw [Pl.strOfNums_size]; simp only [List.length_append, List.length_singleton]; omega⟩
          obtain ⟨k, rfl⟩ : ∃ j, k = j + 1 := ⟨k - 1, by omega⟩
          simp only [spec_l1Sleb.l0, sleb_low]
          rw [if_neg c1, if_pos c3, if_neg c2, if_pos (by omega)]
      · refine ⟨r, fun k hk => ?_, by omega⟩
        obtain ⟨k, rfl⟩ : ∃ j, k = j + 1 := ⟨k - 1, by omega⟩
        simp only [spec_l1Sleb.l0, sleb_low]
        rw [if_neg c1, if_neg c3, if_pos (by omega)]
        exact hr k (by omega)
theorem sleb_told (x : Int) (h0 : -9223372036854775808 ≤ x) (h1 : x < 9223372036854775808) : ∃ r : ByteArray, r.size ≤ 10 ∧ Ev (fun k => spec_l1Sleb.f k x) r ∧ Ev (fun k => impl_SlebBytes.f k x) r := by
  obtain ⟨r, hr, hs⟩ := sleb_ends 9 x [] (by omega) (by omega) (by simp)
  refine ⟨r, by simpa using hs, ⟨10, fun k hk => hr k (by omega)⟩, ⟨10, fun k hk => ?_⟩⟩
  show impl_SlebBytes.l0 k x [] = some r
  rw [← sleb_same k x []]
  exact hr k (by omega)

theorem FnExactSlebBytes : laws_FnExactSlebBytes.Pure := by
  intro a0 h
  obtain ⟨h0, h1⟩ := Pl.wf_i64 h
  obtain ⟨r, _, hs, hi⟩ := sleb_told a0 h0 h1
  refine Ev.rounds ?_
  unfold laws_FnExactSlebBytes.f spec_SlebBytes.f
  refine (hs.bind (Ev.now r)).bind (hi.bind ?_)
  simp only [eq_self, if_true]
  exact Ev.now true

end Go.Proofs.Ytbchlolgphnmnaa.Pure
