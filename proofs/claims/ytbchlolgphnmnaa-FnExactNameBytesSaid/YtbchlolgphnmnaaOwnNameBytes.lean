/- NameBytes: walks of our own of the reference's and the program's function and of the statement's; conditions: a length that can be read. -/
import Derived.Test.YtbchlolgphnmnaaPFnExactUlebBytesx1
import Derived.Test.YtbchlolgphnmnaaPlain3
import Derived.WalkKit
namespace Go.Proofs.Ytbchlolgphnmnaa.OwnNameBytes
open Go Go.RowKit Go.Proofs.YtbchlolgphnmnaaW.PrintWords Go.Proofs.YtbchlolgphnmnaaW.PrintLast Go.Proofs.YtbchlolgphnmnaaW.PrintMore Go.Proofs.Ytbchlolgphnmnaa.PFnExactUlebBytes
set_option linter.unusedVariables false
set_option linter.unusedSimpArgs false
/-! ### Numbers in bytes: both loops are one, and they end -/
theorem uleb_byte (x : Int) (h0 : 0 ≤ x) : (bits .or .u64 (bits .and .u64 x 127) 128) % 256 = bits .or .u8 (x % 256) 128 := by
  rw [Pl.and127 .u64 (by decide), Pl.or_u8_128 (x % 256) (by omega) (by omega), Pl.or_join_u64 7 (x % 128) 128 (by omega) (by omega) (by omega) (by decide) (by omega) (by decide)]
  omega
theorem uleb_same : ∀ (k : Nat) (x : Int) (acc : List Int), 0 ≤ x → spec_l1Uleb.l0 k x acc = impl_UlebBytes.l0 k x acc
  | 0, _, _, _ => rfl
  | k + 1, x, acc, h0 => by
    simp only [spec_l1Uleb.l0, impl_UlebBytes.l0]
    by_cases h : x > 127
    · rw [if_pos h, if_pos (show x ≥ 128 by omega), uleb_byte x h0, uleb_same k _ _ (by omega)]
    · rw [if_neg h, if_neg (show ¬ x ≥ 128 by omega)]
theorem uleb_ends : ∀ (m : Nat) (x : Int) (acc : List Int), 0 ≤ x → x < 128 ^ (m + 1) → acc.length + m < 140737488355328 →
    ∃ r : ByteArray, (∀ k, m < k → spec_l1Uleb.l0 k x acc = some r) ∧ r.size ≤ acc.length + m + 1
  | 0, x, acc, h0, h1, hl => by
    refine ⟨strOfNums (acc ++ [x % 256]), fun k hk => ?_, by rw [Pl.strOfNums_size]; simp only [List.length_append, List.length_singleton]; omega⟩
    obtain ⟨k, rfl⟩ : ∃ j, k = j + 1 := ⟨k - 1, by omega⟩
    simp only [spec_l1Uleb.l0]
    rw [if_neg (by omega), if_pos (by omega)]
  | m + 1, x, acc, h0, h1, hl => by
    by_cases h : x > 127
    · obtain ⟨r, hr, hs⟩ := uleb_ends m (x / 128) (acc ++ [(bits .or .u64 (bits .and .u64 x 127) 128) % 256]) (by omega) (by
        rw [Int.pow_succ] at h1; exact Int.ediv_lt_of_lt_mul (by decide) (by omega)) (by simp; omega)
      refine ⟨r, fun k hk => ?_, by simp at hs; omega⟩
      obtain ⟨k, rfl⟩ : ∃ j, k = j + 1 := ⟨k - 1, by omega⟩
      simp only [spec_l1Uleb.l0]
      rw [if_pos h, if_pos (by omega)]
      exact hr k (by omega)
    · refine ⟨strOfNums (acc ++ [x % 256]), fun k hk => ?_, by rw [Pl.strOfNums_size]; simp only [List.length_append, List.length_singleton]; omega⟩
      obtain ⟨k, rfl⟩ : ∃ j, k = j + 1 := ⟨k - 1, by omega⟩
      simp only [spec_l1Uleb.l0]
      rw [if_neg h, if_pos (by omega)]
/-- What both come to. -/
theorem uleb_told (x : Int) (h0 : 0 ≤ x) (h1 : x < 18446744073709551616) : ∃ r : ByteArray, r.size ≤ 10 ∧ Ev (fun k => spec_l1Uleb.f k x) r ∧ Ev (fun k => impl_UlebBytes.f k x) r := by
  obtain ⟨r, hr, hs⟩ := uleb_ends 9 x [] h0 (by omega) (by simp)
  refine ⟨r, by simpa using hs, ⟨10, fun k hk => hr k (by omega)⟩, ⟨10, fun k hk => ?_⟩⟩
  show impl_UlebBytes.l0 k x [] = some r
  rw [← uleb_same k x [] h0]
  exact hr k (by omega)
theorem spec_long (s : ByteArray) (w : World) (h : 100 < (s.size : Int)) : Calls Try.prog 32 #[.string s] w fun e w' => e = .returned (.tuple #[.string ⟨#[]⟩, .bool false]) ∧ Below w.heap.size w w' := by
  have h1 : decide (100 < (s.size : Int)) = true := decide_eq_true h
  have h2 : decide (100 < s.size) = true := decide_eq_true (by omega)
  clear h
  go_enter Try.func32, Try.ntmps32
  go_wp2
  go_ret2
  exact ⟨rfl, Below.refl _ _⟩
theorem impl_long (s : ByteArray) (w : World) (h : 100 < (s.size : Int)) : Calls Try.prog 33 #[.string s] w fun e w' => e = .returned (.tuple #[.string ⟨#[]⟩, .bool false]) ∧ Below w.heap.size w w' := by
  have h1 : decide (100 < (s.size : Int)) = true := decide_eq_true h
  have h2 : decide (100 < s.size) = true := decide_eq_true (by omega)
  clear h
  go_enter Try.func33, Try.ntmps33
  go_wp2
  go_ret2
  exact ⟨rfl, Below.refl _ _⟩
theorem spec_short (s : ByteArray) (k : Nat) (r : ByteArray) (w : World) (h : s.size ≤ 100) (hr : spec_l1Uleb.f k (s.size : Int) = some r) (hs : r.size ≤ 10) : Calls Try.prog 32 #[.string s] w fun e w' => e = .returned (.tuple #[.string (r ++ s), .bool true]) ∧ Below w.heap.size w w' := by
  have h1 : decide (100 < (s.size : Int)) = false := decide_eq_false (by omega)
  have h2 : decide (100 < s.size) = false := decide_eq_false (by omega)
  have hz : (9223372036854775807 < r.size + s.size) = False := eq_false (by omega)
  have hw : IntKind.u64.wrap (s.size : Int) = (s.size : Int) := by rw [Pl.wrap_u64]; omega
  have c := fun w => spec_l1Uleb.calls k (s.size : Int) r w hr
  clear hr hs h
  go_enter Try.func32, Try.ntmps32
  go_wp2_with (go_at_call 41; refine (c _).mono ?_; rintro e w1 ⟨rfl, hb⟩)
  go_ret2
  exact ⟨rfl, hb⟩
theorem impl_short (s : ByteArray) (k : Nat) (r : ByteArray) (w : World) (h : s.size ≤ 100) (hr : impl_UlebBytes.f k (s.size : Int) = some r) (hs : r.size ≤ 10) : Calls Try.prog 33 #[.string s] w fun e w' => e = .returned (.tuple #[.string (r ++ s), .bool true]) ∧ Below w.heap.size w w' := by
  have h1 : decide (100 < (s.size : Int)) = false := decide_eq_false (by omega)
  have h2 : decide (100 < s.size) = false := decide_eq_false (by omega)
  have hz : (9223372036854775807 < r.size + s.size) = False := eq_false (by omega)
  have hw : IntKind.u64.wrap (s.size : Int) = (s.size : Int) := by rw [Pl.wrap_u64]; omega
  have c := fun w => impl_UlebBytes.calls k (s.size : Int) r w hr
  clear hr hs h
  go_enter Try.func33, Try.ntmps33
  go_wp2_with (go_at_call 18; refine (c _).mono ?_; rintro e w1 ⟨rfl, hb⟩)
  go_ret2
  exact ⟨rfl, hb⟩
theorem both (s : ByteArray) : ∃ (r : ByteArray) (b : Bool), ∀ w : World, (Calls Try.prog 32 #[.string s] w fun e w' => e = .returned (.tuple #[.string r, .bool b]) ∧ Below w.heap.size w w') ∧
    (Calls Try.prog 33 #[.string s] w fun e w' => e = .returned (.tuple #[.string r, .bool b]) ∧ Below w.heap.size w w') := by
  by_cases h : s.size ≤ 100
  · obtain ⟨r, hs, ⟨K, e1⟩, ⟨K', e2⟩⟩ := uleb_told (s.size : Int) (by omega) (by omega)
    exact ⟨r ++ s, true, fun w => ⟨spec_short s _ r w h (e1 K (Nat.le_refl _)) hs, impl_short s _ r w h (e2 K' (Nat.le_refl _)) hs⟩⟩
  · exact ⟨⟨#[]⟩, false, fun w => ⟨spec_long s w (by omega), impl_long s w (by omega)⟩⟩
theorem law (s : ByteArray) (w : World) : Calls Try.prog 11 #[.string s] w fun e w' => e = .returned (.bool true) ∧ Below w.heap.size w w' := by
  obtain ⟨r, b, hc⟩ := both s
  by_cases h : 1048576 < s.size
  · have h1 : decide (1048576 < (s.size : Int)) = true := decide_eq_true (by omega)
    have h2 : decide (1048576 < s.size) = true := decide_eq_true h
    clear h
    go_enter Try.func11, Try.ntmps11
    go_wp2
    go_ret
    exact ⟨rfl, Below.refl _ _⟩
  · have h1 : decide (1048576 < (s.size : Int)) = false := decide_eq_false (by omega)
    have h2 : decide (1048576 < s.size) = false := decide_eq_false h
    clear h
    go_enter Try.func11, Try.ntmps11
    go_wp2_with (first | (go_at_call 32; refine (hc _).1.mono ?_; rintro e w1 ⟨rfl, hb1⟩) | (go_at_call 33; refine (hc _).2.mono ?_; rintro e w2 ⟨rfl, hb2⟩))
    go_ret
    exact ⟨by simp, below_then hb1 hb1.size hb2⟩
end Go.Proofs.Ytbchlolgphnmnaa.OwnNameBytes
