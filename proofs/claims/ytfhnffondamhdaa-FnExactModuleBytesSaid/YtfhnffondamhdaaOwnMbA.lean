/- Numbers as bytes (the lowest first): walks of our own. Code in bytes: numbers in bytes, instructions in bytes: by printed walks of the parts. Code in bytes, the reference's side: walks of our own. Code in bytes, the program's side: walks of our own. Rows of bytes that began as a text's: what an append leaves of them; lists of types in bytes: walks of our own. FuncBytes: both sides and the law, by walks of our own. A func in bytes, the reference: a walk of our own. A func in bytes, the program: a walk of our own. FuncBytes, both sides: walks of our own. Sections: what both sides hold good, sections in bytes. A text's builder, what writes to it: walks of our own (the laid contracts lack these two at this seat). Sections in bytes, the program: a walk of our own. A module in bytes, in plain words. Funcs and globals in bytes, the program: walks of our own. ModuleBytes, the program: a walk of our own. -/
import Derived.Test.YtfhnffondamhdaaOwnBase
import Derived.Test.YtfhnffondamhdaaPlainA
import Derived.Test.YtfhnffondamhdaaProg
import Derived.Outline
import Derived.WalkKit
import Derived.Lib.Hide
import Derived.Test.YtfhnffondamhdaaPl1Ulebx1
import Derived.Test.YtfhnffondamhdaaPl1Slebx1
import Derived.Test.YtfhnffondamhdaaPUlebBytesx1
import Derived.Test.YtfhnffondamhdaaPSlebBytesx1
import Derived.Lib.AtoiErrMem
import Derived.BigRegion
import Derived.Deep.RegionHeldLaw
import Derived.Deep.DeepCutAuto
import Derived.BigQuiet
import Derived.Test.YtfhnffondamhdaaShelf
import Derived.Lib.Builder
import Derived.Lib.AppendStr
import Derived.Laws.Externs
import Derived.Lib.Walk
import Derived.Shelf.RegionOpenPlain
namespace Go.Proofs.Ytfhnffondamhdaa.OwnBytes
open Go Go.RowKit Go.Proofs.YtfhnffondamhdaaW.PrintWords Go.Proofs.YtfhnffondamhdaaW.PrintLast Go.Proofs.YtfhnffondamhdaaW.PrintMore
set_option linter.unusedVariables false
set_option linter.unusedSimpArgs false
theorem info_u8 : (Try.prog.info? 5).map (fun i => (i.zero, i.size, i.bytes)) = some (some (.int .u8 0), 1, 1) := by kernel_rfl
/-- The first i of n bytes of x, then noughts. -/
def bytesAt (x : Int) (n i : Nat) : List Int := (List.range n).map fun j => if j < i then x / 2 ^ (8 * j) % 256 else 0
def bytesM (x : Int) (n : Nat) : ByteArray := strOfNums (bytesAt x n n)
theorem bytesAt_zero (x : Int) (n : Nat) : bytesAt x n 0 = List.replicate n 0 := by
  unfold bytesAt; simp [List.map_const']
theorem bytesAt_len (x : Int) (n i : Nat) : (bytesAt x n i).length = n := by unfold bytesAt; simp
theorem bytesAt_set (x : Int) (n i : Nat) (h : i < n) : (bytesAt x n i).set i (x / 2 ^ (8 * i) % 256) = bytesAt x n (i + 1) := by
  unfold bytesAt
  apply List.ext_getElem
  · simp
  · intro j h1 h2
    simp only [List.length_map, List.length_range] at h2
    rw [List.getElem_set]
    simp only [List.getElem_map, List.getElem_range]
    by_cases e : i = j
    · subst e; rw [if_pos rfl, if_pos (by omega)]
    · rw [if_neg e]
      by_cases f : j < i
      · rw [if_pos f, if_pos (by omega)]
      · rw [if_neg f, if_neg (by omega)]
set_option maxRecDepth 100000 in
set_option maxHeartbeats 4000000 in
theorem bytes_s (x : Int) (n : Nat) (h0 : 0 ≤ x) (hn : n ≤ 8) (w : World) : Calls Try.prog 86 #[.int .u64 x, .int .i64 n] w fun e w' => e = .returned (.string (bytesM x n)) ∧ Below w.heap.size w w' := by
  go_enter Try.func86, Try.ntmps86
  go_wp2_with (first | ((with_reducible refine gate_dst (N := 8) rfl ?_); refine Kd.R_make (Kd.int .u8) _ 5 rfl (N := 8) rfl 111 _ _ rfl (n : Int) rfl rfl Try.underlying111 (.int .u8 0) 1 info_u8 rfl (by decide) (by omega) 0 (ok := fun _ => True) (okp := fun _ => True) rfl (fun _ hk => hk) trivial (by omega) (by rw [Int.toNat_natCast]; omega) (Below.refl _ _) (Nat.le_refl _) ?_; intro v1 w1 hR hb1 hg_ hnew_; clear hg_ hnew_; obtain ⟨Ao, co, eo⟩ := Kd.R_slice hR; subst eo))
  simp only [Int.toNat_natCast, List.length_replicate] at hR
  rw [← bytesAt_zero x n] at hR
  go_loopg [11] n (fun kq v11 w' => ∃ i : Nat, i + kq = n ∧ v11 = .int .i64 i ∧ Aside0 (Kd.R (Kd.int .u8) 5 w' w.heap.size (fun _ => True) (.slice Ao n co) (bytesAt x n i)) ∧ Aside0 (Below w.heap.size w w'))
  case atStart => exact ⟨0, by omega, rfl, ⟨hR⟩, ⟨hb1⟩⟩
  case round =>
    obtain ⟨i, hi, rfl, HR, HB⟩ := hrel
    cases gk with
    | zero =>
      obtain rfl : i = n := by omega
      have hcv := own_string (P := Try.prog) Try.underlying111 Try.underlying5 Try.underlying9 (Kd.own_of_R HR.out)
      have hd : decide ((i : Int) < (i : Int)) = false := decide_eq_false (by omega)
      go_wp2
      go_ret
      exact ⟨rfl, HB.out⟩
    | succ k1 =>
      have hd : decide ((i : Int) < (n : Int)) = true := decide_eq_true (by omega)
      obtain ⟨go1, co1, eo1, gb1, gl1, cl1, HG1⟩ := Kd.R_form HR.out (by rw [bytesAt_len]; omega)
      rw [bytesAt_len] at eo1
      injection eo1 with ea_ en_ ec_
      subst ea_; subst ec_; clear en_
      obtain ⟨hx, hf⟩ := Kd.R_celln 0 HR.out (i : Int) (by omega) (by omega)
      have HP := Kd.R_putg HR.out (i : Int) (x / 2 ^ (8 * i) % 256)
      rw [Int.toNat_natCast] at hx hf HP
      rw [bytesAt_set x n i (by omega)] at HP
      have w1 : IntKind.i64.wrap (8 * (i : Int)) = 8 * (i : Int) := by rw [IntKind.wrap_i64]; omega
      have w2 : IntKind.u64.wrap (8 * (i : Int)) = 8 * (i : Int) := by rw [IntKind.wrap_u64]; omega
      have w3 : shr .u64 x (8 * (i : Int)) = x / 2 ^ (8 * i) := by
        have := Pl.shr_at .u64 x (8 * i) (show 8 * i ≤ 64 by omega)
        rwa [Int.natCast_mul] at this
      have q1 : (0 : Int) ≤ (i : Int) := by omega
      have q2 : (i : Int) < (n : Int) := by omega
      have q3 : (0 : Int) ≤ 8 * (i : Int) := by omega
      go_wp2
      go_roundg k1
      case measure => omega
      case rel => exact ⟨i + 1, by omega, by rw [Int.natCast_add]; rfl, ⟨HP.1⟩, ⟨below_set HB.out gb1⟩⟩
set_option maxRecDepth 100000 in
set_option maxHeartbeats 4000000 in
theorem bytes_i (x : Int) (n : Nat) (h0 : 0 ≤ x) (hn : n ≤ 8) (w : World) : Calls Try.prog 54 #[.int .u64 x, .int .i64 n] w fun e w' => e = .returned (.string (bytesM x n)) ∧ Below w.heap.size w w' := by
  go_enter Try.func54, Try.ntmps54
  go_wp2_with (first | ((with_reducible refine gate_dst (N := 8) rfl ?_); refine Kd.R_make (Kd.int .u8) _ 5 rfl (N := 8) rfl 111 _ _ rfl (n : Int) rfl rfl Try.underlying111 (.int .u8 0) 1 info_u8 rfl (by decide) (by omega) 0 (ok := fun _ => True) (okp := fun _ => True) rfl (fun _ hk => hk) trivial (by omega) (by rw [Int.toNat_natCast]; omega) (Below.refl _ _) (Nat.le_refl _) ?_; intro v1 w1 hR hb1 hg_ hnew_; clear hg_ hnew_; obtain ⟨Ao, co, eo⟩ := Kd.R_slice hR; subst eo))
  simp only [Int.toNat_natCast, List.length_replicate] at hR
  rw [← bytesAt_zero x n] at hR
  go_loopg [11] n (fun kq v11 w' => ∃ i : Nat, i + kq = n ∧ v11 = .int .i64 i ∧ Aside0 (Kd.R (Kd.int .u8) 5 w' w.heap.size (fun _ => True) (.slice Ao n co) (bytesAt x n i)) ∧ Aside0 (Below w.heap.size w w'))
  case atStart => exact ⟨0, by omega, rfl, ⟨hR⟩, ⟨hb1⟩⟩
  case round =>
    obtain ⟨i, hi, rfl, HR, HB⟩ := hrel
    cases gk with
    | zero =>
      obtain rfl : i = n := by omega
      have hcv := own_string (P := Try.prog) Try.underlying111 Try.underlying5 Try.underlying9 (Kd.own_of_R HR.out)
      have hd : decide ((i : Int) < (i : Int)) = false := decide_eq_false (by omega)
      go_wp2
      go_ret
      exact ⟨rfl, HB.out⟩
    | succ k1 =>
      have hd : decide ((i : Int) < (n : Int)) = true := decide_eq_true (by omega)
      obtain ⟨go1, co1, eo1, gb1, gl1, cl1, HG1⟩ := Kd.R_form HR.out (by rw [bytesAt_len]; omega)
      rw [bytesAt_len] at eo1
      injection eo1 with ea_ en_ ec_
      subst ea_; subst ec_; clear en_
      obtain ⟨hx, hf⟩ := Kd.R_celln 0 HR.out (i : Int) (by omega) (by omega)
      have HP := Kd.R_putg HR.out (i : Int) (x / 2 ^ (8 * i) % 256)
      rw [Int.toNat_natCast] at hx hf HP
      rw [bytesAt_set x n i (by omega)] at HP
      have w1 : IntKind.i64.wrap (8 * (i : Int)) = 8 * (i : Int) := by rw [IntKind.wrap_i64]; omega
      have w2 : IntKind.u64.wrap (8 * (i : Int)) = 8 * (i : Int) := by rw [IntKind.wrap_u64]; omega
      have w3 : shr .u64 x (8 * (i : Int)) = x / 2 ^ (8 * i) := by
        have := Pl.shr_at .u64 x (8 * i) (show 8 * i ≤ 64 by omega)
        rwa [Int.natCast_mul] at this
      have q1 : (0 : Int) ≤ (i : Int) := by omega
      have q2 : (i : Int) < (n : Int) := by omega
      have q3 : (0 : Int) ≤ 8 * (i : Int) := by omega
      go_wp2
      go_roundg k1
      case measure => omega
      case rel => exact ⟨i + 1, by omega, by rw [Int.natCast_add]; rfl, ⟨HP.1⟩, ⟨below_set HB.out gb1⟩⟩
end Go.Proofs.Ytfhnffondamhdaa.OwnBytes
namespace Go.Proofs.Ytfhnffondamhdaa.OwnCode
open Go Go.RowKit Go.Proofs.YtfhnffondamhdaaW.PrintWords Go.Proofs.YtfhnffondamhdaaW.PrintLast Go.Proofs.YtfhnffondamhdaaW.PrintMore Go.Proofs.Ytfhnffondamhdaa.OwnBs Go.Proofs.Ytfhnffondamhdaa.OwnKp
set_option linter.unusedVariables false
set_option linter.unusedSimpArgs false
/-! ### Numbers in bytes -/
section
open Pl1Uleb PUlebBytes
/-! ### Numbers in bytes: both loops are one, and they end -/
theorem uleb_byte (x : Int) (h0 : 0 ≤ x) : (bits .or .u64 (bits .and .u64 x 127) 128) % 256 = bits .or .u8 (x % 256) 128 := by
  rw [Pl.and127 .u64 (by decide), Pl.or_u8_128 (x % 256) (by omega) (by omega), Pl.or_join_u64 7 (x % 128) 128 (by omega) (by omega) (by omega) (by decide) (by omega) (by decide)]
  omega
theorem uleb_same : ∀ (k : Nat) (x : Int) (acc : List Int), 0 ≤ x → spec_l1Uleb.l0 k x acc = impl_UlebBytes.l0 k x acc
  | 0, _, _, _ => rfl
  | k + 1, x, acc, h0 => by
    simp only [spec_l1Uleb.l0, impl_UlebBytes.l0]
    by_cases h : x > 127
    · rw [if_pos h, if_pos (show x ≥ 128 by omega), uleb_byte x h0, uleb_same k _ _ (by omega)]
    · rw [if_neg h, if_neg (show ¬ x ≥ 128 by omega)]
theorem uleb_ends : ∀ (m : Nat) (x : Int) (acc : List Int), 0 ≤ x → x < 128 ^ (m + 1) → acc.length + m < 140737488355328 →
    ∃ r : ByteArray, (∀ k, m < k → spec_l1Uleb.l0 k x acc = some r) ∧ r.size ≤ acc.length + m + 1
  | 0, x, acc, h0, h1, hl => by
    refine ⟨strOfNums (acc ++ [x % 256]), fun k hk => ?_, by rw [Pl.strOfNums_size]; simp only [List.length_append, List.length_singleton]; omega⟩
    obtain ⟨k, rfl⟩ : ∃ j, k = j + 1 := ⟨k - 1, by omega⟩
    simp only [spec_l1Uleb.l0]
    rw [if_neg (by omega), if_pos (by omega)]
  | m + 1, x, acc, h0, h1, hl => by
    by_cases h : x > 127
    · obtain ⟨r, hr, hs⟩ := uleb_ends m (x / 128) (acc ++ [(bits .or .u64 (bits .and .u64 x 127) 128) % 256]) (by omega) (by
        rw [Int.pow_succ] at h1; exact Int.ediv_lt_of_lt_mul (by decide) (by omega)) (by simp; omega)
      refine ⟨r, fun k hk => ?_, by simp at hs; omega⟩
      obtain ⟨k, rfl⟩ : ∃ j, k = j + 1 := ⟨k - 1, by omega⟩
      simp only [spec_l1Uleb.l0]
      rw [if_pos h, if_pos (by omega)]
      exact hr k (by omega)
    · refine ⟨strOfNums (acc ++ [x % 256]), fun k hk => ?_, by rw [Pl.strOfNums_size]; simp only [List.length_append, List.length_singleton]; omega⟩
      obtain ⟨k, rfl⟩ : ∃ j, k = j + 1 := ⟨k - 1, by omega⟩
      simp only [spec_l1Uleb.l0]
      rw [if_neg h, if_pos (by omega)]
/-- What both come to. -/
theorem uleb_told (x : Int) (h0 : 0 ≤ x) (h1 : x < 18446744073709551616) : ∃ r : ByteArray, r.size ≤ 10 ∧ Ev (fun k => spec_l1Uleb.f k x) r ∧ Ev (fun k => impl_UlebBytes.f k x) r := by
  obtain ⟨r, hr, hs⟩ := uleb_ends 9 x [] h0 (by omega) (by simp)
  refine ⟨r, by simpa using hs, ⟨10, fun k hk => hr k (by omega)⟩, ⟨10, fun k hk => ?_⟩⟩
  show impl_UlebBytes.l0 k x [] = some r
  rw [← uleb_same k x [] h0]
  exact hr k (by omega)

def ulebS (x : Int) : ByteArray := (spec_l1Uleb.f 11 x).getD ⟨#[]⟩
theorem ulebS_told (x : Int) (h0 : 0 ≤ x) (h1 : x < 18446744073709551616) : (ulebS x).size ≤ 10 ∧ Ev (fun k => spec_l1Uleb.f k x) (ulebS x) ∧ Ev (fun k => impl_UlebBytes.f k x) (ulebS x) := by
  obtain ⟨r, hr, hs⟩ := uleb_ends 9 x [] h0 (by omega) (by simp)
  have e : ulebS x = r := by unfold ulebS; rw [show spec_l1Uleb.f 11 x = some r from hr 11 (by omega)]; rfl
  rw [e]
  refine ⟨by simpa using hs, ⟨10, fun k hk => hr k (by omega)⟩, ⟨10, fun k hk => ?_⟩⟩
  show impl_UlebBytes.l0 k x [] = some r
  rw [← uleb_same k x [] h0]
  exact hr k (by omega)
theorem uleb_s (x : Int) (h0 : 0 ≤ x) (h1 : x < 18446744073709551616) (w : World) : Calls Try.prog 84 #[.int .u64 x] w fun e w' => e = .returned (.string (ulebS x)) ∧ Below w.heap.size w w' := by
  obtain ⟨k, hk⟩ := (ulebS_told x h0 h1).2.1.rounds
  exact spec_l1Uleb.calls k x _ w hk
theorem uleb_i (x : Int) (h0 : 0 ≤ x) (h1 : x < 18446744073709551616) (w : World) : Calls Try.prog 51 #[.int .u64 x] w fun e w' => e = .returned (.string (ulebS x)) ∧ Below w.heap.size w w' := by
  obtain ⟨k, hk⟩ := (ulebS_told x h0 h1).2.2.rounds
  exact impl_UlebBytes.calls k x _ w hk
end
section
open Pl1Sleb PSlebBytes
/-! ### Signed numbers in bytes: both loops are one text, and they end -/
theorem sleb_same : ∀ (k : Nat) (x : Int) (acc : List Int), spec_l1Sleb.l0 k x acc = impl_SlebBytes.l0 k x acc
  | 0, _, _ => rfl
  | k + 1, x, acc => by
    simp only [spec_l1Sleb.l0, impl_SlebBytes.l0, sleb_same k]
theorem sleb_low (x : Int) : bits .and .u8 ((bits .and .i64 x 127) % 256) 64 = 0 ↔ x % 128 < 64 := by
  have key : ∀ v : Fin 128, bits .and .u8 (v.val : Int) 64 = 0 ↔ (v.val : Int) < 64 := by decide +kernel
  have h := key ⟨(x % 128).toNat, by omega⟩
  rw [Pl.and127 .i64 (by decide), show x % 128 % 256 = x % 128 by omega]
  simp only [Int.toNat_of_nonneg (show 0 ≤ x % 128 by omega)] at h
  exact h
theorem sleb_ends : ∀ (m : Nat) (x : Int) (acc : List Int), - (64 * 128 ^ m) ≤ x → x < 64 * 128 ^ m → acc.length + m < 140737488355328 →
    ∃ r : ByteArray, (∀ k, m < k → spec_l1Sleb.l0 k x acc = some r) ∧ r.size ≤ acc.length + m + 1
  | 0, x, acc, h0, h1, hl => by
    refine ⟨strOfNums (acc ++ [(bits .and .i64 x 127) % 256]), fun k hk => ?_, by rw [Pl.strOfNums_size]; simp only [List.length_append, List.length_singleton]; omega⟩
    obtain ⟨k, rfl⟩ : ∃ j, k = j + 1 := ⟨k - 1, by omega⟩
    simp only [spec_l1Sleb.l0, sleb_low]
    by_cases hx : 0 ≤ x
    · rw [if_pos (by omega), if_pos (by omega), if_pos (by omega)]
    · rw [if_neg (by omega), if_pos (by omega), if_neg (by omega), if_pos (by omega)]
  | m + 1, x, acc, h0, h1, hl => by
    have hd : - (64 * 128 ^ m) ≤ x / 128 ∧ x / 128 < 64 * 128 ^ m := by
      rw [Int.pow_succ] at h0 h1
      omega
    obtain ⟨r, hr, hs⟩ := sleb_ends m (x / 128) (acc ++ [bits .or .u8 ((bits .and .i64 x 127) % 256) 128]) hd.1 hd.2 (by simp only [List.length_append, List.length_singleton]; omega)
    simp only [List.length_append, List.length_singleton] at hs
    by_cases c1 : x / 128 = 0
    · by_cases c2 : x % 128 < 64
      · refine ⟨strOfNums (acc ++ [(bits .and .i64 x 127) % 256]), fun k hk => ?_, by rw [Pl.strOfNums_size]; simp only [List.length_append, List.length_singleton]; omega⟩
        obtain ⟨k, rfl⟩ : ∃ j, k = j + 1 := ⟨k - 1, by omega⟩
        simp only [spec_l1Sleb.l0, sleb_low]
        rw [if_pos c1, if_pos c2, if_pos (by omega)]
      · refine ⟨r, fun k hk => ?_, by omega⟩
        obtain ⟨k, rfl⟩ : ∃ j, k = j + 1 := ⟨k - 1, by omega⟩
        simp only [spec_l1Sleb.l0, sleb_low]
        rw [if_pos c1, if_neg c2, if_neg (by omega), if_pos (by omega)]
        exact hr k (by omega)
    · by_cases c3 : x / 128 = -1
      · by_cases c2 : x % 128 < 64
        · refine ⟨r, fun k hk => ?_, by omega⟩
          obtain ⟨k, rfl⟩ : ∃ j, k = j + 1 := ⟨k - 1, by omega⟩
          simp only [spec_l1Sleb.l0, sleb_low]
          rw [if_neg c1, if_pos c3, if_pos c2, if_pos (by omega)]
          exact hr k (by omega)
        · refine ⟨strOfNums (acc ++ [(bits .and .i64 x 127) % 256]), fun k hk => ?_, by rw [Pl.strOfNums_size]; simp only [List.length_append, List.length_singleton]; omega⟩
          obtain ⟨k, rfl⟩ : ∃ j, k = j + 1 := ⟨k - 1, by omega⟩
          simp only [spec_l1Sleb.l0, sleb_low]
          rw [if_neg c1, if_pos c3, if_neg c2, if_pos (by omega)]
      · refine ⟨r, fun k hk => ?_, by omega⟩
        obtain ⟨k, rfl⟩ : ∃ j, k = j + 1 := ⟨k - 1, by omega⟩
        simp only [spec_l1Sleb.l0, sleb_low]
        rw [if_neg c1, if_neg c3, if_pos (by omega)]
        exact hr k (by omega)
theorem sleb_told (x : Int) (h0 : -9223372036854775808 ≤ x) (h1 : x < 9223372036854775808) : ∃ r : ByteArray, r.size ≤ 10 ∧ Ev (fun k => spec_l1Sleb.f k x) r ∧ Ev (fun k => impl_SlebBytes.f k x) r := by
  obtain ⟨r, hr, hs⟩ := sleb_ends 9 x [] (by omega) (by omega) (by simp)
  refine ⟨r, by simpa using hs, ⟨10, fun k hk => hr k (by omega)⟩, ⟨10, fun k hk => ?_⟩⟩
  show impl_SlebBytes.l0 k x [] = some r
  rw [← sleb_same k x []]
  exact hr k (by omega)

def slebS (x : Int) : ByteArray := (spec_l1Sleb.f 11 x).getD ⟨#[]⟩
theorem slebS_told (x : Int) (h0 : -9223372036854775808 ≤ x) (h1 : x < 9223372036854775808) : (slebS x).size ≤ 10 ∧ Ev (fun k => spec_l1Sleb.f k x) (slebS x) ∧ Ev (fun k => impl_SlebBytes.f k x) (slebS x) := by
  obtain ⟨r, hr, hs⟩ := sleb_ends 9 x [] (by omega) (by omega) (by simp)
  have e : slebS x = r := by unfold slebS; rw [show spec_l1Sleb.f 11 x = some r from hr 11 (by omega)]; rfl
  rw [e]
  refine ⟨by simpa using hs, ⟨10, fun k hk => hr k (by omega)⟩, ⟨10, fun k hk => ?_⟩⟩
  show impl_SlebBytes.l0 k x [] = some r
  rw [← sleb_same k x []]
  exact hr k (by omega)
theorem sleb_s (x : Int) (h0 : -9223372036854775808 ≤ x) (h1 : x < 9223372036854775808) (w : World) : Calls Try.prog 117 #[.int .i64 x] w fun e w' => e = .returned (.string (slebS x)) ∧ Below w.heap.size w w' := by
  obtain ⟨k, hk⟩ := (slebS_told x h0 h1).2.1.rounds
  exact spec_l1Sleb.calls k x _ w hk
theorem sleb_i (x : Int) (h0 : -9223372036854775808 ≤ x) (h1 : x < 9223372036854775808) (w : World) : Calls Try.prog 105 #[.int .i64 x] w fun e w' => e = .returned (.string (slebS x)) ∧ Below w.heap.size w w' := by
  obtain ⟨k, hk⟩ := (slebS_told x h0 h1).2.2.rounds
  exact impl_SlebBytes.calls k x _ w hk
end
/-! ### Instructions in bytes -/
def tailS (op a : Int) : ByteArray := if shapeM op = 1 then strOfNums [a % 256] else if shapeM op = 2 ∨ shapeM op = 3 then ulebS a else if shapeM op = 4 ∨ shapeM op = 5 then slebS a else if shapeM op = 6 then OwnBytes.bytesM a 4 else ⟨#[]⟩
def insS (op a : Int) : ByteArray := strOfNums [op % 256] ++ tailS op a
def codeS (l : List (Int × Int)) : ByteArray := l.foldl (fun s x => s ++ insS x.1 x.2) ⟨#[]⟩
theorem codeS_snoc (l : List (Int × Int)) (i : Nat) (h : i < l.length) : codeS (l.take (i + 1)) = codeS (l.take i) ++ insS l[i].1 l[i].2 := by
  unfold codeS; rw [List.take_succ_eq_append_getElem h, List.foldl_append]; rfl
theorem tailS_size {op a : Int} (h : goodI op a = true) (ha : -9223372036854775808 ≤ a ∧ a < 9223372036854775808) : (tailS op a).size ≤ 10 := by
  unfold tailS
  rcases goodI_says h with h | ⟨h, h1, h2⟩ | ⟨h, h1, h2⟩ | ⟨h, h1, h2⟩ | h | h | ⟨h, h1, h2⟩
  · rw [if_neg (by omega), if_neg (by omega), if_neg (by omega), if_neg (by omega)]; exact Nat.zero_le _
  · rw [if_pos h, Pl.strOfNums_size]; simp
  · rw [if_neg (by omega), if_pos (by omega)]; exact (ulebS_told a h1 (by omega)).1
  · rw [if_neg (by omega), if_pos (by omega)]; exact (ulebS_told a h1 (by omega)).1
  · rw [if_neg (by omega), if_neg (by omega), if_pos (by omega)]; exact (slebS_told a ha.1 ha.2).1
  · rw [if_neg (by omega), if_neg (by omega), if_pos (by omega)]; exact (slebS_told a ha.1 ha.2).1
  · rw [if_neg (by omega), if_neg (by omega), if_neg (by omega), if_pos (by omega)]; unfold OwnBytes.bytesM; rw [Pl.strOfNums_size, OwnBytes.bytesAt_len]; omega
end Go.Proofs.Ytfhnffondamhdaa.OwnCode
namespace Go.Proofs.Ytfhnffondamhdaa.OwnCodeS
open Go Go.RowKit Go.Proofs.YtfhnffondamhdaaW.PrintWords Go.Proofs.YtfhnffondamhdaaW.PrintLast Go.Proofs.YtfhnffondamhdaaW.PrintMore Go.Proofs.Ytfhnffondamhdaa.OwnBs Go.Proofs.Ytfhnffondamhdaa.OwnKp Go.Proofs.Ytfhnffondamhdaa.OwnCode
set_option linter.unusedVariables false
set_option linter.unusedSimpArgs false
set_option maxRecDepth 100000 in
set_option maxHeartbeats 8000000 in
theorem bytes_code (A : Option Addr) (c : Nat) (l : List (Int × Int)) (w : World) (hr : Kd.C kI w A l.length l) (hc : l.length ≤ c) (g : goodC l = true) (hw : ∀ p ∈ l, -9223372036854775808 ≤ p.2 ∧ p.2 < 9223372036854775808) : Calls Try.prog 98 #[.slice A l.length c] w fun e w' => e = .returned (.string (codeS l)) ∧ Below w.heap.size w w' := by
  have HR := Aside0.mk hr
  have HG := Aside0.mk g
  have HW := Aside0.mk hw
  have hl := goodC_len g
  clear hr g hw
  go_enter Try.func98, Try.ntmps98
  go_wp2
  go_loopg [3, 8] l.length (fun kq v3 v8 w' => ∃ i : Nat, i + kq = l.length ∧ v3 = .string (codeS (l.take i)) ∧ v8 = .int .i64 i ∧ Aside0 ((codeS (l.take i)).size ≤ 11 * i) ∧ Aside0 (Below w.heap.size w w'))
  case atStart => exact ⟨0, by omega, rfl, rfl, ⟨Nat.le_refl _⟩, ⟨Below.refl _ _⟩⟩
  case round =>
    obtain ⟨i, hi, rfl, rfl, HZ, HB0⟩ := hrel
    cases gk with
    | zero =>
      obtain rfl : i = l.length := by omega
      rw [List.take_length]
      have hd : decide ((l.length : Int) < (l.length : Int)) = false := decide_eq_false (by omega)
      go_wp2
      go_ret
      exact ⟨rfl, HB0.out⟩
    | succ k1 =>
      have hil : i < l.length := by omega
      have hd : decide ((i : Int) < (l.length : Int)) = true := decide_eq_true (by omega)
      have HI := Aside0.mk (goodC_at HG.out i hil)
      obtain ⟨ad, e, hx0, hx1⟩ := at_ins HR.out i hil
      subst e
      replace hx0 := (HB0.out.cell (World.block_lt_of_cell? w _ hx0)).trans hx0
      replace hx1 := (HB0.out.cell (World.block_lt_of_cell? w _ hx1)).trans hx1
      have HS := Aside0.mk (codeS_snoc l i hil)
      have HA := HW.out l[i] (List.getElem_mem hil)
      have hz := HZ.out
      generalize codeS (l.take i) = s at *
      generalize l[i].1 = op at *
      generalize l[i].2 = a at *
      have ho := shape_op HI.out
      have hlit := lit1_str1
      have z1 : (9223372036854775807 < s.size + (strOfNums [op]).size) = False := eq_false (by rw [Pl.strOfNums_size]; simp; omega)
      have eo : op % 256 = op := by omega
      have cf := fun w => shape_s op w
      have ht := tailS_size HI.out HA
      have HT : Aside0 (insS op a = strOfNums [op] ++ tailS op a) := ⟨by unfold insS; rw [eo]⟩
      have z2 : (9223372036854775807 < (s ++ strOfNums [op]).size + (tailS op a).size) = False := eq_false (by rw [ByteArray.size_append, Pl.strOfNums_size]; simp; omega)
      have z3 : (9223372036854775807 < s.size + (strOfNums [op]).size + (tailS op a).size) = False := eq_false (by rw [Pl.strOfNums_size]; simp; omega)
      have HZ2 : Aside0 ((s ++ (strOfNums [op] ++ tailS op a)).size ≤ 11 * (i + 1)) := ⟨by rw [ByteArray.size_append, ByteArray.size_append, Pl.strOfNums_size]; simp; omega⟩
      clear eo hz HZ
      have HB := HB0.out
      clear HB0
      rcases goodI_says HI.out with h | ⟨h, h1, h2⟩ | ⟨h, h1, h2⟩ | ⟨h, h1, h2⟩ | h | h | ⟨h, h1, h2⟩
      · have et : tailS op a = ⟨#[]⟩ := by unfold tailS; rw [if_neg (by omega), if_neg (by omega), if_neg (by omega), if_neg (by omega)]
        rw [et] at HT HZ2 z2 z3
        rw [h] at cf
        clear et ht h
        go_wp2_with (first | (go_at_call 116; (with_reducible refine (cf _).mono ?_); rintro e w' ⟨rfl, n, rfl⟩))
        go_roundg k1
        case measure => omega
        case rel => exact ⟨i + 1, by omega, by rw [HS.out, HT.out]; exact congrArg (fun x => Value.string (s ++ x)) (ByteArray.append_empty).symm, by rw [Int.natCast_add]; rfl, ⟨by rw [HS.out, HT.out]; exact HZ2.out⟩, ⟨by repeat (first | (with_reducible exact HB) | (with_reducible refine below_alloc ?_ _) | (with_reducible refine below_drew1 ?_) | (with_reducible refine pw_below_drewN ?_ _) | (with_reducible refine below_step ?_ hb1))⟩⟩
      · have et : tailS op a = strOfNums [a] := by unfold tailS; rw [if_pos h, show a % 256 = a by omega]
        rw [et] at HT HZ2 z2 z3
        rw [h] at cf
        clear et ht h
        have hlit2 := lit1_str2
        go_wp2_with (first | (go_at_call 116; (with_reducible refine (cf _).mono ?_); rintro e w' ⟨rfl, n, rfl⟩))
        go_roundg k1
        case measure => omega
        case rel => exact ⟨i + 1, by omega, by rw [HS.out, HT.out]; rw [ByteArray.append_assoc], by rw [Int.natCast_add]; rfl, ⟨by rw [HS.out, HT.out]; exact HZ2.out⟩, ⟨by repeat (first | (with_reducible exact HB) | (with_reducible refine below_alloc ?_ _) | (with_reducible refine below_drew1 ?_) | (with_reducible refine pw_below_drewN ?_ _) | (with_reducible refine below_step ?_ hb1))⟩⟩
      · have et : tailS op a = ulebS a := by unfold tailS; rw [if_neg (by omega), if_pos (by omega)]
        rw [et] at HT HZ2 z2 z3
        rw [h] at cf
        clear et ht h
        have ct := fun w => uleb_s a h1 (by omega) w
        generalize ulebS a = T at *
        go_wp2_with (first | (go_at_call 116; (with_reducible refine (cf _).mono ?_); rintro e w' ⟨rfl, n, rfl⟩) | (go_at_call 84; (with_reducible refine (ct _).mono ?_); rintro e w1 ⟨rfl, hb1⟩))
        go_roundg k1
        case measure => omega
        case rel => exact ⟨i + 1, by omega, by rw [HS.out, HT.out]; rw [ByteArray.append_assoc], by rw [Int.natCast_add]; rfl, ⟨by rw [HS.out, HT.out]; exact HZ2.out⟩, ⟨by repeat (first | (with_reducible exact HB) | (with_reducible refine below_alloc ?_ _) | (with_reducible refine below_drew1 ?_) | (with_reducible refine pw_below_drewN ?_ _) | (with_reducible refine below_step ?_ hb1))⟩⟩
      · have et : tailS op a = ulebS a := by unfold tailS; rw [if_neg (by omega), if_pos (by omega)]
        rw [et] at HT HZ2 z2 z3
        rw [h] at cf
        clear et ht h
        have ct := fun w => uleb_s a h1 (by omega) w
        generalize ulebS a = T at *
        go_wp2_with (first | (go_at_call 116; (with_reducible refine (cf _).mono ?_); rintro e w' ⟨rfl, n, rfl⟩) | (go_at_call 84; (with_reducible refine (ct _).mono ?_); rintro e w1 ⟨rfl, hb1⟩))
        go_roundg k1
        case measure => omega
        case rel => exact ⟨i + 1, by omega, by rw [HS.out, HT.out]; rw [ByteArray.append_assoc], by rw [Int.natCast_add]; rfl, ⟨by rw [HS.out, HT.out]; exact HZ2.out⟩, ⟨by repeat (first | (with_reducible exact HB) | (with_reducible refine below_alloc ?_ _) | (with_reducible refine below_drew1 ?_) | (with_reducible refine pw_below_drewN ?_ _) | (with_reducible refine below_step ?_ hb1))⟩⟩
      · have et : tailS op a = slebS a := by unfold tailS; rw [if_neg (by omega), if_neg (by omega), if_pos (by omega)]
        rw [et] at HT HZ2 z2 z3
        rw [h] at cf
        clear et ht h
        have ct := fun w => sleb_s a HA.1 HA.2 w
        have hA1 := HA.1
        have hA2 := HA.2
        generalize slebS a = T at *
        go_wp2_with (first | (go_at_call 116; (with_reducible refine (cf _).mono ?_); rintro e w' ⟨rfl, n, rfl⟩) | (go_at_call 117; (with_reducible refine (ct _).mono ?_); rintro e w1 ⟨rfl, hb1⟩))
        go_roundg k1
        case measure => omega
        case rel => exact ⟨i + 1, by omega, by rw [HS.out, HT.out]; rw [ByteArray.append_assoc], by rw [Int.natCast_add]; rfl, ⟨by rw [HS.out, HT.out]; exact HZ2.out⟩, ⟨by repeat (first | (with_reducible exact HB) | (with_reducible refine below_alloc ?_ _) | (with_reducible refine below_drew1 ?_) | (with_reducible refine pw_below_drewN ?_ _) | (with_reducible refine below_step ?_ hb1))⟩⟩
      · have et : tailS op a = slebS a := by unfold tailS; rw [if_neg (by omega), if_neg (by omega), if_pos (by omega)]
        rw [et] at HT HZ2 z2 z3
        rw [h] at cf
        clear et ht h
        have ct := fun w => sleb_s a HA.1 HA.2 w
        have hA1 := HA.1
        have hA2 := HA.2
        generalize slebS a = T at *
        go_wp2_with (first | (go_at_call 116; (with_reducible refine (cf _).mono ?_); rintro e w' ⟨rfl, n, rfl⟩) | (go_at_call 117; (with_reducible refine (ct _).mono ?_); rintro e w1 ⟨rfl, hb1⟩))
        go_roundg k1
        case measure => omega
        case rel => exact ⟨i + 1, by omega, by rw [HS.out, HT.out]; rw [ByteArray.append_assoc], by rw [Int.natCast_add]; rfl, ⟨by rw [HS.out, HT.out]; exact HZ2.out⟩, ⟨by repeat (first | (with_reducible exact HB) | (with_reducible refine below_alloc ?_ _) | (with_reducible refine below_drew1 ?_) | (with_reducible refine pw_below_drewN ?_ _) | (with_reducible refine below_step ?_ hb1))⟩⟩
      · have et : tailS op a = OwnBytes.bytesM a 4 := by unfold tailS; rw [if_neg (by omega), if_neg (by omega), if_neg (by omega), if_pos h]
        rw [et] at HT HZ2 z2 z3
        rw [h] at cf
        clear et ht h
        have ct : ∀ w : World, Calls Try.prog 86 #[.int .u64 a, .int .i64 4] w fun e w' => e = .returned (.string (OwnBytes.bytesM a 4)) ∧ Below w.heap.size w w' := fun w => OwnBytes.bytes_s a 4 h1 (by omega) w
        generalize OwnBytes.bytesM a 4 = T at *
        go_wp2_with (first | (go_at_call 116; (with_reducible refine (cf _).mono ?_); rintro e w' ⟨rfl, n, rfl⟩) | (go_at_call 86; (with_reducible refine (ct _).mono ?_); rintro e w1 ⟨rfl, hb1⟩))
        go_roundg k1
        case measure => omega
        case rel => exact ⟨i + 1, by omega, by rw [HS.out, HT.out]; rw [ByteArray.append_assoc], by rw [Int.natCast_add]; rfl, ⟨by rw [HS.out, HT.out]; exact HZ2.out⟩, ⟨by repeat (first | (with_reducible exact HB) | (with_reducible refine below_alloc ?_ _) | (with_reducible refine below_drew1 ?_) | (with_reducible refine pw_below_drewN ?_ _) | (with_reducible refine below_step ?_ hb1))⟩⟩

end Go.Proofs.Ytfhnffondamhdaa.OwnCodeS
namespace Go.Proofs.Ytfhnffondamhdaa.OwnCodeI
open Go Go.RowKit Go.Proofs.YtfhnffondamhdaaW.PrintWords Go.Proofs.YtfhnffondamhdaaW.PrintLast Go.Proofs.YtfhnffondamhdaaW.PrintMore Go.Proofs.Ytfhnffondamhdaa.OwnBs Go.Proofs.Ytfhnffondamhdaa.OwnKp Go.Proofs.Ytfhnffondamhdaa.OwnCode
set_option linter.unusedVariables false
set_option linter.unusedSimpArgs false
set_option maxRecDepth 100000 in
set_option maxHeartbeats 8000000 in
theorem code_i (A : Option Addr) (c : Nat) (l : List (Int × Int)) (w : World) (hr : Kd.C kI w A l.length l) (hc : l.length ≤ c) (g : goodC l = true) (hw : ∀ p ∈ l, -9223372036854775808 ≤ p.2 ∧ p.2 < 9223372036854775808) : Calls Try.prog 68 #[.slice A l.length c] w fun e w' => e = .returned (.tuple #[.string (codeS l), .bool true]) ∧ Below w.heap.size w w' := by
  have HR := Aside0.mk hr
  have HG := Aside0.mk g
  have HW := Aside0.mk hw
  have hl := goodC_len g
  have cg := fun w hr => good_i A c l w hr hc (by omega)
  rw [g] at cg
  clear hr g hw
  go_enter Try.func68, Try.ntmps68
  go_wp2_with (go_at_call 103; (with_reducible refine (cg _ HR.out).mono ?_); rintro e w0 ⟨rfl, hb0⟩)
  clear cg
  go_loopg [4, 13] l.length (fun kq v4 v13 w' => ∃ i : Nat, i + kq = l.length ∧ Bs w w' v4 (bytesOf (codeS (l.take i))) ∧ v13 = .int .i64 i ∧ Aside0 ((codeS (l.take i)).size ≤ 11 * i))
  case atStart => exact ⟨0, by omega, Bs.lit hb0 [] (by simp), rfl, ⟨Nat.le_refl _⟩⟩
  case round =>
    obtain ⟨i, hi, HB, rfl, HZ⟩ := hrel
    obtain ⟨A4, c4, e4⟩ := HB.form
    subst e4
    have HN : Aside0 (some wr.heap.size ≠ (Value.slice A4 (bytesOf (codeS (l.take i))).length c4).ownBlock) := ⟨own_ne_new HB.own 0⟩
    cases gk with
    | zero =>
      obtain rfl : i = l.length := by omega
      rw [List.take_length] at HB ⊢
      have hd : decide ((l.length : Int) < (l.length : Int)) = false := decide_eq_false (by omega)
      have hcv := own_string (P := Try.prog) Try.underlying111 Try.underlying5 Try.underlying9 HB.own
      rw [strOfNums_bytesOf] at hcv
      go_wp2
      go_ret2
      exact ⟨rfl, HB.bel⟩
    | succ k1 =>
      have hil : i < l.length := by omega
      have hd : decide ((i : Int) < (l.length : Int)) = true := decide_eq_true (by omega)
      have HI := Aside0.mk (goodC_at HG.out i hil)
      obtain ⟨ad, e, hx0, hx1⟩ := at_ins HR.out i hil
      subst e
      replace hx0 := (HB.bel.cell (World.block_lt_of_cell? w _ hx0)).trans hx0
      replace hx1 := (HB.bel.cell (World.block_lt_of_cell? w _ hx1)).trans hx1
      have HS := Aside0.mk (codeS_snoc l i hil)
      have HA := HW.out l[i] (List.getElem_mem hil)
      have hz := HZ.out
      generalize codeS (l.take i) = s at *
      generalize l[i].1 = op at *
      generalize l[i].2 = a at *
      have ho := shape_op HI.out
      have eo : op % 256 = op := by omega
      have cf := fun w => form_i op w
      have ht := tailS_size HI.out HA
      have HT : Aside0 (insS op a = strOfNums [op] ++ tailS op a) := ⟨by unfold insS; rw [eo]⟩
      have HZ2 : Aside0 ((s ++ (strOfNums [op] ++ tailS op a)).size ≤ 11 * (i + 1)) := ⟨by rw [ByteArray.size_append, ByteArray.size_append, Pl.strOfNums_size]; simp; omega⟩
      have hs1 : (bytesOf s).length ≤ 3000 := by rw [bytesOf_length]; omega
      have HO : Aside0 (bytesOf (strOfNums [op]) = [op]) := ⟨bytesOf_strOfNums [op] (by simp; omega)⟩
      clear eo hz HZ
      rcases goodI_says HI.out with h | ⟨h, h1, h2⟩ | ⟨h, h1, h2⟩ | ⟨h, h1, h2⟩ | h | h | ⟨h, h1, h2⟩
      · have et : tailS op a = ⟨#[]⟩ := by unfold tailS; rw [if_neg (by omega), if_neg (by omega), if_neg (by omega), if_neg (by omega)]
        rw [et] at HT HZ2 ht
        rw [h, show (0 : Int) + 1 = 1 by decide] at cf
        clear et h
        go_wp2_with (first | (at_builtin; (fail_if_success (have _ := H1)); refine app_litg (w0 := w) rfl _ _ rfl (.slice A4 (bytesOf s).length c4) _ [_] rfl _ rfl (by simp) (HB.alloc _) (by simp only [List.length_cons, List.length_nil]; omega) ?_; intro v1 w1 H1 hg; have q0 : w1.cell? ⟨wr.heap.size, 0, none⟩ = some (.int .i64 op) := (hg.cell (by go_simp) HN.out); have q1 : w1.cell? ⟨wr.heap.size, 1, none⟩ = some (.int .i64 a) := (hg.cell (by go_simp) HN.out); clear hg) | (go_at_call 104; (with_reducible refine (cf _).mono ?_); rintro e w2 ⟨rfl, n, rfl⟩))
        go_roundg k1
        case measure => omega
        case rel => exact ⟨i + 1, by omega, by rw [HS.out, HT.out, bytesOf_append, bytesOf_append, HO.out]; simpa [bytesOf] using H1.drewN n, by rw [Int.natCast_add]; rfl, ⟨by rw [HS.out, HT.out]; exact HZ2.out⟩⟩
      · have et : tailS op a = strOfNums [a] := by unfold tailS; rw [if_pos h, show a % 256 = a by omega]
        rw [et] at HT HZ2 ht
        rw [h, show (1 : Int) + 1 = 2 by decide] at cf
        clear et h
        go_wp2_with (first | (at_builtin; (fail_if_success (have _ := H1)); refine app_litg (w0 := w) rfl _ _ rfl (.slice A4 (bytesOf s).length c4) _ [_] rfl _ rfl (by simp) (HB.alloc _) (by simp only [List.length_cons, List.length_nil]; omega) ?_; intro v1 w1 H1 hg; have q0 : w1.cell? ⟨wr.heap.size, 0, none⟩ = some (.int .i64 op) := (hg.cell (by go_simp) HN.out); have q1 : w1.cell? ⟨wr.heap.size, 1, none⟩ = some (.int .i64 a) := (hg.cell (by go_simp) HN.out); clear hg) | (go_at_call 104; (with_reducible refine (cf _).mono ?_); rintro e w2 ⟨rfl, n, rfl⟩) | (at_builtin; have _ := H1; refine app_litg (w0 := w) rfl _ _ rfl v1 _ [_] rfl _ rfl (by simp) (H1.drewN n) (by simp only [List.length_cons, List.length_nil, List.length_append]; omega) ?_; intro v4 w4 H4 _))
        go_roundg k1
        case measure => omega
        case rel => exact ⟨i + 1, by omega, by rw [HS.out, HT.out, bytesOf_append, bytesOf_append, HO.out, bytesOf_strOfNums [a] (by simp; omega), ← List.append_assoc]; exact H4, by rw [Int.natCast_add]; rfl, ⟨by rw [HS.out, HT.out]; exact HZ2.out⟩⟩
      · have et : tailS op a = ulebS a := by unfold tailS; rw [if_neg (by omega), if_pos (by omega)]
        rw [et] at HT HZ2 ht
        rw [h, show (2 : Int) + 1 = 3 by decide] at cf
        clear et h
        have ct := fun w => uleb_i a h1 (by omega) w
        generalize ulebS a = T at *
        go_wp2_with (first | (at_builtin; (fail_if_success (have _ := H1)); refine app_litg (w0 := w) rfl _ _ rfl (.slice A4 (bytesOf s).length c4) _ [_] rfl _ rfl (by simp) (HB.alloc _) (by simp only [List.length_cons, List.length_nil]; omega) ?_; intro v1 w1 H1 hg; have q0 : w1.cell? ⟨wr.heap.size, 0, none⟩ = some (.int .i64 op) := (hg.cell (by go_simp) HN.out); have q1 : w1.cell? ⟨wr.heap.size, 1, none⟩ = some (.int .i64 a) := (hg.cell (by go_simp) HN.out); clear hg) | (go_at_call 104; (with_reducible refine (cf _).mono ?_); rintro e w2 ⟨rfl, n, rfl⟩) | (go_at_call 51; (with_reducible refine (ct _).mono ?_); rintro e w3 ⟨rfl, hb3⟩) | (at_builtin; have _ := H1; refine app_str (w0 := w) rfl _ _ rfl v1 _ T rfl rfl ((H1.drewN n).below hb3) (by simp only [List.length_cons, List.length_nil, List.length_append]; omega) ?_; intro v4 w4 H4))
        go_roundg k1
        case measure => omega
        case rel => exact ⟨i + 1, by omega, by rw [HS.out, HT.out, bytesOf_append, bytesOf_append, HO.out, ← List.append_assoc]; exact H4, by rw [Int.natCast_add]; rfl, ⟨by rw [HS.out, HT.out]; exact HZ2.out⟩⟩
      · have et : tailS op a = ulebS a := by unfold tailS; rw [if_neg (by omega), if_pos (by omega)]
        rw [et] at HT HZ2 ht
        rw [h, show (3 : Int) + 1 = 4 by decide] at cf
        clear et h
        have ct := fun w => uleb_i a h1 (by omega) w
        generalize ulebS a = T at *
        go_wp2_with (first | (at_builtin; (fail_if_success (have _ := H1)); refine app_litg (w0 := w) rfl _ _ rfl (.slice A4 (bytesOf s).length c4) _ [_] rfl _ rfl (by simp) (HB.alloc _) (by simp only [List.length_cons, List.length_nil]; omega) ?_; intro v1 w1 H1 hg; have q0 : w1.cell? ⟨wr.heap.size, 0, none⟩ = some (.int .i64 op) := (hg.cell (by go_simp) HN.out); have q1 : w1.cell? ⟨wr.heap.size, 1, none⟩ = some (.int .i64 a) := (hg.cell (by go_simp) HN.out); clear hg) | (go_at_call 104; (with_reducible refine (cf _).mono ?_); rintro e w2 ⟨rfl, n, rfl⟩) | (go_at_call 51; (with_reducible refine (ct _).mono ?_); rintro e w3 ⟨rfl, hb3⟩) | (at_builtin; have _ := H1; refine app_str (w0 := w) rfl _ _ rfl v1 _ T rfl rfl ((H1.drewN n).below hb3) (by simp only [List.length_cons, List.length_nil, List.length_append]; omega) ?_; intro v4 w4 H4))
        go_roundg k1
        case measure => omega
        case rel => exact ⟨i + 1, by omega, by rw [HS.out, HT.out, bytesOf_append, bytesOf_append, HO.out, ← List.append_assoc]; exact H4, by rw [Int.natCast_add]; rfl, ⟨by rw [HS.out, HT.out]; exact HZ2.out⟩⟩
      · have et : tailS op a = slebS a := by unfold tailS; rw [if_neg (by omega), if_neg (by omega), if_pos (by omega)]
        rw [et] at HT HZ2 ht
        rw [h, show (4 : Int) + 1 = 5 by decide] at cf
        clear et h
        have ct := fun w => sleb_i a HA.1 HA.2 w
        have hA1 := HA.1
        have hA2 := HA.2
        generalize slebS a = T at *
        go_wp2_with (first | (at_builtin; (fail_if_success (have _ := H1)); refine app_litg (w0 := w) rfl _ _ rfl (.slice A4 (bytesOf s).length c4) _ [_] rfl _ rfl (by simp) (HB.alloc _) (by simp only [List.length_cons, List.length_nil]; omega) ?_; intro v1 w1 H1 hg; have q0 : w1.cell? ⟨wr.heap.size, 0, none⟩ = some (.int .i64 op) := (hg.cell (by go_simp) HN.out); have q1 : w1.cell? ⟨wr.heap.size, 1, none⟩ = some (.int .i64 a) := (hg.cell (by go_simp) HN.out); clear hg) | (go_at_call 104; (with_reducible refine (cf _).mono ?_); rintro e w2 ⟨rfl, n, rfl⟩) | (go_at_call 105; (with_reducible refine (ct _).mono ?_); rintro e w3 ⟨rfl, hb3⟩) | (at_builtin; have _ := H1; refine app_str (w0 := w) rfl _ _ rfl v1 _ T rfl rfl ((H1.drewN n).below hb3) (by simp only [List.length_cons, List.length_nil, List.length_append]; omega) ?_; intro v4 w4 H4))
        go_roundg k1
        case measure => omega
        case rel => exact ⟨i + 1, by omega, by rw [HS.out, HT.out, bytesOf_append, bytesOf_append, HO.out, ← List.append_assoc]; exact H4, by rw [Int.natCast_add]; rfl, ⟨by rw [HS.out, HT.out]; exact HZ2.out⟩⟩
      · have et : tailS op a = slebS a := by unfold tailS; rw [if_neg (by omega), if_neg (by omega), if_pos (by omega)]
        rw [et] at HT HZ2 ht
        rw [h, show (5 : Int) + 1 = 6 by decide] at cf
        clear et h
        have ct := fun w => sleb_i a HA.1 HA.2 w
        have hA1 := HA.1
        have hA2 := HA.2
        generalize slebS a = T at *
        go_wp2_with (first | (at_builtin; (fail_if_success (have _ := H1)); refine app_litg (w0 := w) rfl _ _ rfl (.slice A4 (bytesOf s).length c4) _ [_] rfl _ rfl (by simp) (HB.alloc _) (by simp only [List.length_cons, List.length_nil]; omega) ?_; intro v1 w1 H1 hg; have q0 : w1.cell? ⟨wr.heap.size, 0, none⟩ = some (.int .i64 op) := (hg.cell (by go_simp) HN.out); have q1 : w1.cell? ⟨wr.heap.size, 1, none⟩ = some (.int .i64 a) := (hg.cell (by go_simp) HN.out); clear hg) | (go_at_call 104; (with_reducible refine (cf _).mono ?_); rintro e w2 ⟨rfl, n, rfl⟩) | (go_at_call 105; (with_reducible refine (ct _).mono ?_); rintro e w3 ⟨rfl, hb3⟩) | (at_builtin; have _ := H1; refine app_str (w0 := w) rfl _ _ rfl v1 _ T rfl rfl ((H1.drewN n).below hb3) (by simp only [List.length_cons, List.length_nil, List.length_append]; omega) ?_; intro v4 w4 H4))
        go_roundg k1
        case measure => omega
        case rel => exact ⟨i + 1, by omega, by rw [HS.out, HT.out, bytesOf_append, bytesOf_append, HO.out, ← List.append_assoc]; exact H4, by rw [Int.natCast_add]; rfl, ⟨by rw [HS.out, HT.out]; exact HZ2.out⟩⟩
      · have et : tailS op a = OwnBytes.bytesM a 4 := by unfold tailS; rw [if_neg (by omega), if_neg (by omega), if_neg (by omega), if_pos h]
        rw [et] at HT HZ2 ht
        rw [h, show (6 : Int) + 1 = 7 by decide] at cf
        clear et h
        have ct : ∀ w : World, Calls Try.prog 54 #[.int .u64 a, .int .i64 4] w fun e w' => e = .returned (.string (OwnBytes.bytesM a 4)) ∧ Below w.heap.size w w' := fun w => OwnBytes.bytes_i a 4 h1 (by omega) w
        generalize OwnBytes.bytesM a 4 = T at *
        go_wp2_with (first | (at_builtin; (fail_if_success (have _ := H1)); refine app_litg (w0 := w) rfl _ _ rfl (.slice A4 (bytesOf s).length c4) _ [_] rfl _ rfl (by simp) (HB.alloc _) (by simp only [List.length_cons, List.length_nil]; omega) ?_; intro v1 w1 H1 hg; have q0 : w1.cell? ⟨wr.heap.size, 0, none⟩ = some (.int .i64 op) := (hg.cell (by go_simp) HN.out); have q1 : w1.cell? ⟨wr.heap.size, 1, none⟩ = some (.int .i64 a) := (hg.cell (by go_simp) HN.out); clear hg) | (go_at_call 104; (with_reducible refine (cf _).mono ?_); rintro e w2 ⟨rfl, n, rfl⟩) | (go_at_call 54; (with_reducible refine (ct _).mono ?_); rintro e w3 ⟨rfl, hb3⟩) | (at_builtin; have _ := H1; refine app_str (w0 := w) rfl _ _ rfl v1 _ T rfl rfl ((H1.drewN n).below hb3) (by simp only [List.length_cons, List.length_nil, List.length_append]; omega) ?_; intro v4 w4 H4))
        go_roundg k1
        case measure => omega
        case rel => exact ⟨i + 1, by omega, by rw [HS.out, HT.out, bytesOf_append, bytesOf_append, HO.out, ← List.append_assoc]; exact H4, by rw [Int.natCast_add]; rfl, ⟨by rw [HS.out, HT.out]; exact HZ2.out⟩⟩

end Go.Proofs.Ytfhnffondamhdaa.OwnCodeI
namespace Go.Proofs.Ytfhnffondamhdaa.OwnBc
open Go Go.RowKit Go.Proofs.YtfhnffondamhdaaW.PrintWords Go.Proofs.YtfhnffondamhdaaW.PrintLast Go.Proofs.YtfhnffondamhdaaW.PrintMore Go.Proofs.Ytfhnffondamhdaa.OwnBs Go.Proofs.Ytfhnffondamhdaa.OwnKp Go.Proofs.Ytfhnffondamhdaa.OwnCode
set_option linter.unusedVariables false
set_option linter.unusedSimpArgs false
/-- v is a row of bytes of the call's own that reads as l; of its block nothing within the capacity is frozen. -/
structure Bc (w0 w : World) (v : Value) (l : List Int) : Prop where
  row : ∃ g cap cur fz, v = .slice (some ⟨g, 0, none⟩) l.length cap ∧ w0.heap.size ≤ g ∧ w.heap[g]? = some (Obj.cells cur 5 fz) ∧ (fz = (0, 0) ∨ cap ≤ fz.1) ∧ l.length ≤ cap ∧ cap ≤ maxLen ∧ cur.size = cap ∧ cur.toList.take l.length = nums .u8 l
  bel : Below w0.heap.size w0 w
theorem Bc.form {w0 w : World} {v : Value} {l : List Int} (h : Bc w0 w v l) : ∃ g c, v = .slice (some ⟨g, 0, none⟩) l.length c := by
  obtain ⟨⟨g, cap, cur, fz, e, _⟩, _⟩ := h
  exact ⟨g, cap, e⟩
theorem Bc.cell {w0 w : World} {l : List Int} {g n c : Nat} (h : Bc w0 w (.slice (some ⟨g, 0, none⟩) n c) l) (i : Nat) (hi : i < l.length) : w.cell? ⟨g, i, none⟩ = some (.int .u8 l[i]) := by
  obtain ⟨⟨g', cap, cur, fz, e, h1, h2, h3, h4, h5, h6, h7⟩, _⟩ := h
  injection e with e1 e2 e3
  injection e1 with e1
  injection e1 with e1
  subst e1
  have : cur.toList[i]? = some (.int .u8 l[i]) := by
    have h8 : (cur.toList.take l.length)[i]? = some (.int .u8 l[i]) := by rw [h7]; simp [nums, List.getElem?_eq_getElem hi]
    rwa [List.getElem?_take_of_lt hi] at h8
  simp only [World.cell?, h2]
  simpa using this
theorem Bc.str {w0 w : World} {v : Value} {l : List Int} (h : Bc w0 w v l) : (convert 111 9 v).run Try.prog w = .ok (.string (strOfNums l)) w := by
  obtain ⟨g, c, rfl⟩ := h.form
  refine run_convert_bytes_arg w 111 5 Try.underlying111 Try.underlying5 g 0 l.length c l rfl (fun i hi => ?_) 9 Try.underlying9
  rw [Nat.zero_add, h.cell i (by omega), List.getD_eq_getElem?_getD, List.getElem?_eq_getElem (by omega)]
  rfl
theorem Bc.of_str {w0 w : World} (hB : Below w0.heap.size w0 w) (s : ByteArray) (hs : s.size ≤ 1000) : Bc w0 (Lib.bytesWorld w 5 s) (.slice (some ⟨w.heap.size, 0, none⟩) s.size (grownCap w s.size 0 5)) (bytesOf s) := by
  have hge := grownCap_ge w s.size 0 5
  have hmx := grownCap_le_maxLen w s.size 0 5 (by unfold maxLen; omega)
  have hsz : (Lib.bytesCells w 5 s).size = grownCap w s.size 0 5 := by
    unfold Lib.bytesCells
    rw [Array.size_append, Array.size_replicate, Array.size_map]
    have : s.data.size = s.size := rfl
    omega
  refine ⟨⟨w.heap.size, _, _, _, by rw [bytesOf_length], hB.size, Lib.bytesWorld_at_new w 5 s, .inr (by rw [hsz]; exact Nat.le_refl _), by rw [bytesOf_length]; exact hge, hmx, hsz, ?_⟩, bytes_below hB hB.size _ _⟩
  rw [bytesOf_length]
  unfold Lib.bytesCells
  rw [Array.toList_append, List.take_append_of_le_length (by simp), List.take_of_length_le (by simp)]
  simp [nums, bytesOf]
section
variable {ops : Array Oper} {rest : List Oper} {o : Oper} {a : Act} {Q : Exit → Act → World → Prop} {w0 W : World}
theorem Bc.app {v : Value} {l : List Int} (h : Bc w0 W v l) (x : Int) (hl : l.length ≤ 100000) (hgd : o.guard = none) (s y : Operand) (ho : o.op = .call { callee := .builtin .append, args := #[s, y], argTypes := #[111, 111] })
    (hs : a.eval s = v) (b : Nat) (hy : a.eval y = .slice (some ⟨b, 0, none⟩) 1 1) (hb : b = W.heap.size)
    (K : ∀ v1 w1, Bc w0 w1 v1 (l ++ [x]) → wpList Try.prog ops Q rest (a.put o.dst v1) w1) : wpList Try.prog ops Q (o :: rest) a (W.alloc (.cells #[.int .u8 x] 5)) := by
  subst hb
  have hcell := fun (g n c : Nat) (hv : v = .slice (some ⟨g, 0, none⟩) n c) (i : Nat) (hi : i < l.length) => (hv ▸ h : Bc w0 W (.slice (some ⟨g, 0, none⟩) n c) l).cell i hi
  obtain ⟨⟨g, cap, cur, fz, rfl, h1, h2, h3, h4, h5, h6, h7⟩, hB⟩ := h
  replace hcell := hcell g l.length cap rfl
  obtain ⟨i0, hi, hzz⟩ := Option.map_eq_some_iff.1 info_u8
  simp only [Prod.mk.injEq] at hzz
  obtain ⟨hz0, hz1, hz2⟩ := hzz
  have hgl : g < W.heap.size := blk_lt h2
  have hA : (W.alloc (.cells #[.int .u8 x] 5)).heap[g]? = some (Obj.cells cur 5 fz) := blk_alloc h2 _
  refine wpList_append_arg _ hgd s y 111 ho 5 i0 (.int .u8 0) 1 1 Try.underlying111 hi hz0 hz1 hz2 rfl (by decide) g 0 l.length cap (nums .u8 l) hs (by rw [nums_length]; omega) ?_ ⟨W.heap.size, 0, none⟩ 1 1 [.int .u8 x] hy rfl ?_ (by intro u hu; simp at hu; subst hu; rfl) ?_ (by unfold maxLen at *; omega) (by omega) ?_ ?_
  · intro j u hj
    have hjl : j < l.length := by have := (List.getElem?_eq_some_iff.1 hj).1; rwa [nums_length] at this
    rw [Nat.zero_add]
    have : some u = some (Value.int .u8 l[j]) := by rw [← hj]; simp [nums, List.getElem?_eq_getElem hjl]
    rw [this]
    exact pw_cell_below (below_alloc (Below.refl _ _) _) (hcell j hjl)
  · intro j u hj
    obtain rfl : j = 0 := by have := (List.getElem?_eq_some_iff.1 hj).1; simp at this; omega
    simp at hj
    subst hj
    rw [add_plain]
    have hn : (W.alloc (.cells #[.int .u8 x] 5)).heap[W.heap.size]? = some (.cells #[.int .u8 x] 5 (0, 0)) := by unfold World.alloc; exact Array.getElem?_push_size
    exact (blk_cell hn 0).trans rfl
  · intro hr j hj
    simp at hj
    subst hj
    simp only [World.cell?, World.frozen?, hA, Nat.zero_add, Nat.mul_one, Nat.add_zero]
    refine ⟨?_, ?_⟩
    · rw [Array.getElem?_eq_getElem (by omega)]; rfl
    · rcases h3 with rfl | h3
      · simp
      · have : ¬ fz.1 ≤ l.length := by omega
        simp [this]
  · intro hr
    have hw : (W.alloc (.cells #[.int .u8 x] 5)).setCells g (0 + l.length * 1) [.int .u8 x] = (W.alloc (.cells #[.int .u8 x] 5)).setCell ⟨g, l.length, none⟩ (.int .u8 x) := by
      rw [Nat.zero_add, Nat.mul_one]; rfl
    rw [hw]
    refine K _ _ ⟨⟨g, cap, cur.setIfInBounds l.length (.int .u8 x), fz, by simp, h1, ?_, h3, by simp; omega, h5, by simp [h6], ?_⟩, below_set (below_alloc hB _) h1⟩
    · simp [World.setCell, Array.getElem?_modify, hA]
    · rw [List.length_append, List.length_singleton, Array.toList_setIfInBounds, nums_append]
      have hlt : l.length < cur.toList.length := by simp; omega
      rw [List.take_succ_eq_append_getElem (by simpa using hlt), List.getElem_set_self, List.take_set_of_le (Nat.le_refl _), h7]
      rfl
  · intro hr v' w' hown hg
    have hb := pw_below_grown (below_alloc hB (.cells #[.int .u8 x] 5)) none (Nat.le_trans hB.size (by simp)) hg (fun k hk => by cases hk)
    rcases hown.2 with ⟨_, h0⟩ | ⟨g', cap', cur', rfl, hb', hh', hn', hc', hs', ht'⟩
    · omega
    · refine K _ _ ⟨⟨g', cap', cur', (0, 0), by simp, Nat.le_trans hB.size (Nat.le_trans (by simp) hb'), hh', .inl rfl, by simpa using hn', hc', by omega, ?_⟩, hb⟩
      rw [List.length_append, List.length_singleton, nums_append]
      have : l.length + 1 = (l.length + 1) * 1 := by omega
      rw [this, ht']
      rfl
end
/-! ### Lists of types in bytes -/
def typesS (l : List Int) : ByteArray := ulebS (l.length : Int) ++ strOfNums (l.map (· % 256))
theorem typesS_take (l : List Int) (i : Nat) (h : i < l.length) : (l.take (i + 1)).map (· % 256) = (l.take i).map (· % 256) ++ [l[i] % 256] := by
  rw [List.take_succ_eq_append_getElem h, List.map_append]; rfl
theorem typesS_size (l : List Int) (hl : l.length ≤ 1000) : (typesS l).size ≤ 10 + l.length := by
  unfold typesS
  rw [ByteArray.size_append, Pl.strOfNums_size, List.length_map]
  have := (ulebS_told (l.length : Int) (by omega) (by omega)).1
  omega
set_option maxRecDepth 100000 in
set_option maxHeartbeats 4000000 in
theorem types_s (A : Option Addr) (c : Nat) (l : List Int) (w : World) (hr : Kd.C (Kd.int .i64) w A l.length l) (hc : l.length ≤ c) (hl : l.length ≤ 1000) : Calls Try.prog 99 #[.slice A l.length c] w fun e w' => e = .returned (.string (typesS l)) ∧ Below w.heap.size w w' := by
  have HR := Aside0.mk hr
  clear hr
  have cu := fun w => uleb_s (l.length : Int) (by omega) (by omega) w
  have hu := (ulebS_told (l.length : Int) (by omega) (by omega)).1
  unfold typesS
  generalize ulebS (l.length : Int) = U at *
  go_enter Try.func99, Try.ntmps99
  go_wp2_with (go_at_call 84; (with_reducible refine (cu _).mono ?_); rintro e w1 ⟨rfl, hb1⟩)
  clear cu
  go_loopg [3, 12] l.length (fun kq v3 v12 w' => ∃ i : Nat, i + kq = l.length ∧ v3 = .string (U ++ strOfNums ((l.take i).map (· % 256))) ∧ v12 = .int .i64 i ∧ Aside0 (Below w.heap.size w w'))
  case atStart => exact ⟨0, by omega, by rw [List.take_zero]; exact congrArg Value.string (ByteArray.append_empty).symm, rfl, ⟨hb1⟩⟩
  case round =>
    obtain ⟨i, hi, rfl, rfl, HB⟩ := hrel
    cases gk with
    | zero =>
      obtain rfl : i = l.length := by omega
      rw [List.take_length]
      have hd : decide ((l.length : Int) < (l.length : Int)) = false := decide_eq_false (by omega)
      go_wp2
      go_ret
      exact ⟨rfl, HB.out⟩
    | succ k1 =>
      have hil : i < l.length := by omega
      have hd : decide ((i : Int) < (l.length : Int)) = true := decide_eq_true (by omega)
      obtain ⟨ad, e, hx⟩ := Kd.at_int HR.out (i : Int) (by omega) (by omega)
      rw [Pl.rd_at l i hil, Int.toNat_natCast] at hx
      subst e
      replace hx := (HB.out.cell (World.block_lt_of_cell? w _ hx)).trans hx
      have HS := Aside0.mk (typesS_take l i hil)
      have hz : (strOfNums ((l.take i).map (· % 256))).size = i := by rw [Pl.strOfNums_size, List.length_map, List.length_take]; omega
      generalize l[i] = t at *
      have hlit := lit1_str
      have z1 : (9223372036854775807 < (U ++ strOfNums ((l.take i).map (· % 256))).size + (strOfNums [t % 256]).size) = False := eq_false (by rw [ByteArray.size_append, Pl.strOfNums_size [t % 256], hz, List.length_singleton]; omega)
      have z2 : (9223372036854775807 < U.size + (strOfNums ((l.take i).map (· % 256))).size + (strOfNums [t % 256]).size) = False := eq_false (by rw [Pl.strOfNums_size [t % 256], hz, List.length_singleton]; omega)
      generalize hg : strOfNums ((l.take i).map (· % 256)) = S at *
      clear hz
      have HG := Aside0.mk hg
      clear hg
      go_wp2
      go_roundg k1
      case measure => omega
      case rel => exact ⟨i + 1, by omega, by rw [HS.out, strOfNums_append, HG.out, ByteArray.append_assoc], by rw [Int.natCast_add]; rfl, ⟨below_alloc HB.out _⟩⟩
set_option maxRecDepth 100000 in
set_option maxHeartbeats 4000000 in
theorem types_i (A : Option Addr) (c : Nat) (l : List Int) (w : World) (hr : Kd.C (Kd.int .i64) w A l.length l) (hc : l.length ≤ c) (hl : l.length ≤ 1000) : Calls Try.prog 69 #[.slice A l.length c] w fun e w' => e = .returned (.string (typesS l)) ∧ Below w.heap.size w w' := by
  have HR := Aside0.mk hr
  clear hr
  have cu := fun w => uleb_i (l.length : Int) (by omega) (by omega) w
  have hu := (ulebS_told (l.length : Int) (by omega) (by omega)).1
  unfold typesS
  generalize ulebS (l.length : Int) = U at *
  have kb := fun W => print_bytes (P := Try.prog) 9 111 5 Try.underlying9 Try.underlying111 Try.underlying5 U W
  go_enter Try.func69, Try.ntmps69
  go_wp2_with (go_at_call 51; (with_reducible refine (cu _).mono ?_); rintro e w1 ⟨rfl, hb1⟩)
  clear cu
  have S0 := Bc.of_str hb1 U (by omega)
  go_loopg [3, 13] l.length (fun kq v3 v13 w' => ∃ i : Nat, i + kq = l.length ∧ v13 = .int .i64 i ∧ Bc w w' v3 (bytesOf U ++ (l.take i).map (· % 256)))
  case atStart => exact ⟨0, by omega, rfl, by rw [List.take_zero, List.map_nil, List.append_nil]; exact S0⟩
  case round =>
    clear S0 hb1 kb
    obtain ⟨i, hi, rfl, HB⟩ := hrel
    cases gk with
    | zero =>
      obtain rfl : i = l.length := by omega
      rw [List.take_length] at HB
      have hd : decide ((l.length : Int) < (l.length : Int)) = false := decide_eq_false (by omega)
      have hq : strOfNums (bytesOf U ++ l.map (· % 256)) = U ++ strOfNums (l.map (· % 256)) := by rw [strOfNums_append, strOfNums_bytesOf]
      have HQ := Aside0.mk hq
      clear hq
      generalize bytesOf U ++ l.map (· % 256) = L at *
      obtain ⟨g4, c4, e4⟩ := HB.form
      subst e4
      have hcv := HB.str
      go_wp2
      go_ret
      exact ⟨by rw [← HQ.out]; rfl, HB.bel⟩
    | succ k1 =>
      have hil : i < l.length := by omega
      have hd : decide ((i : Int) < (l.length : Int)) = true := decide_eq_true (by omega)
      obtain ⟨ad, e, hx⟩ := Kd.at_int HR.out (i : Int) (by omega) (by omega)
      rw [Pl.rd_at l i hil, Int.toNat_natCast] at hx
      subst e
      replace hx := (HB.bel.cell (World.block_lt_of_cell? w _ hx)).trans hx
      have HS := Aside0.mk (typesS_take l i hil)
      have hz : (bytesOf U ++ (l.take i).map (· % 256)).length ≤ 5000 := by rw [List.length_append, bytesOf_length, List.length_map, List.length_take]; omega
      have HT : Aside0 (bytesOf U ++ ((l.take i).map (· % 256) ++ [l[i] % 256]) = bytesOf U ++ (l.take i).map (· % 256) ++ [l[i] % 256]) := ⟨(List.append_assoc ..).symm⟩
      generalize l[i] = t at *
      generalize bytesOf U ++ (l.take i).map (· % 256) = L at *
      obtain ⟨g4, c4, e4⟩ := HB.form
      subst e4
      go_wp2_with (at_builtin; refine HB.app (t % 256) (by omega) rfl _ _ rfl rfl _ rfl (by simp) ?_; intro v1 u1 H1)
      go_roundg k1
      case measure => omega
      case rel => exact ⟨i + 1, by omega, by rw [Int.natCast_add]; rfl, by rw [HS.out, HT.out]; exact H1⟩

end Go.Proofs.Ytfhnffondamhdaa.OwnBc
namespace Go.Proofs.Ytfhnffondamhdaa.OwnFb
open Go Go.RowKit Go.Proofs.YtfhnffondamhdaaW.PrintWords Go.Proofs.YtfhnffondamhdaaW.PrintLast Go.Proofs.YtfhnffondamhdaaW.PrintMore Go.Proofs.Ytfhnffondamhdaa.OwnBs Go.Proofs.Ytfhnffondamhdaa.OwnKp Go.Proofs.Ytfhnffondamhdaa.OwnCode Go.Proofs.Ytfhnffondamhdaa.OwnSt Go.Proofs.Ytfhnffondamhdaa.OwnEndsS Go.Proofs.Ytfhnffondamhdaa.OwnDeep Go.Proofs.Ytfhnffondamhdaa.OwnDeepEq Go.Proofs.Ytfhnffondamhdaa.OwnFn Go.Proofs.Ytfhnffondamhdaa.OwnBc Go.Proofs.Ytfhnffondamhdaa.OwnCodeS Go.Proofs.Ytfhnffondamhdaa.OwnCodeI
set_option linter.unusedVariables false
set_option linter.unusedSimpArgs false
theorem lit1_drew (x : Int) (X : World) : (convert 111 9 (.slice (some ⟨X.heap.size, 0, none⟩) 1 1)).run Try.prog (X.alloc (.cells #[.int .u8 x] 5)).drew = .ok (.string (strOfNums [x])) (X.alloc (.cells #[.int .u8 x] 5)).drew :=
  own_string (P := Try.prog) Try.underlying111 Try.underlying5 Try.underlying9 (own_drew (Bs.lit (w0 := X) (Below.refl _ _) [x] (by simp)).own)
theorem lit1_kept (x : Int) (X W : World) (hB : Below (X.alloc (.cells #[.int .u8 x] 5)).heap.size (X.alloc (.cells #[.int .u8 x] 5)) W) : (convert 111 9 (.slice (some ⟨X.heap.size, 0, none⟩) 1 1)).run Try.prog W = .ok (.string (strOfNums [x])) W := by
  refine run_convert_bytes_arg W 111 5 Try.underlying111 Try.underlying5 X.heap.size 0 1 1 [x] rfl (fun i hi => ?_) 9 Try.underlying9
  obtain rfl : i = 0 := by omega
  have h1 := (bcell hB).1 X.heap.size 0 (by simp)
  refine h1.trans ?_
  go_simp
theorem codeS_size (l : List (Int × Int)) (g : goodC l = true) (hw : ∀ p ∈ l, -9223372036854775808 ≤ p.2 ∧ p.2 < 9223372036854775808) : (codeS l).size ≤ 2200 := by
  have key : ∀ i, i ≤ l.length → (codeS (l.take i)).size ≤ 11 * i := by
    intro i
    induction i with
    | zero => intro _; rw [List.take_zero]; exact Nat.le_refl _
    | succ i ih =>
      intro hi
      rw [codeS_snoc l i (by omega), ByteArray.size_append]
      have h1 := tailS_size (goodC_at g i (by omega)) (hw l[i] (List.getElem_mem _))
      have h2 := ih (by omega)
      have h3 : (insS l[i].1 l[i].2).size = 1 + (tailS l[i].1 l[i].2).size := by
        unfold insS
        rw [ByteArray.size_append, Pl.strOfNums_size]
        rfl
      omega
  have := key l.length (Nat.le_refl _)
  rw [List.take_length] at this
  have := goodC_len g
  omega
theorem ends_good {b : List (Int × Int)} (h : (endsM b).2.2 = true) : goodC b = true := by
  unfold endsM at h
  split at h
  · rename_i k; exact k.1
  · exact absurd h (by decide)
theorem tysM_len {m : Nat} {l : List Int} (h : tysM m l = true) : l.length ≤ m := by
  unfold tysM at h
  rw [Bool.and_eq_true, decide_eq_true_eq] at h
  omega
theorem fnG_says {p : List Int} {r : Int} {lo : List Int} {b : List (Int × Int)} (h : fnG p r lo b = true) : p.length ≤ 6 ∧ lo.length ≤ 20 ∧ goodC b = true := by
  unfold fnG at h
  rw [Bool.and_eq_true, Bool.and_eq_true, Bool.and_eq_true] at h
  exact ⟨tysM_len h.1.1.1, tysM_len h.1.1.2, ends_good h.2⟩
/-- A func in bytes. -/
def fnS (p : List Int) (r : Int) (lo : List Int) (b : List (Int × Int)) : ByteArray := typesS p ++ strOfNums [r % 256] ++ typesS lo ++ ulebS ((codeS b).size : Int) ++ codeS b
theorem zsum (a b m : Nat) (ha : a ≤ 100000) (hb : b ≤ 100000) : (9223372036854775807 < a + b) = False := eq_false (by omega)
end Go.Proofs.Ytfhnffondamhdaa.OwnFb
namespace Go.Proofs.Ytfhnffondamhdaa.OwnFbS
open Go Go.RowKit Go.Proofs.YtfhnffondamhdaaW.PrintWords Go.Proofs.YtfhnffondamhdaaW.PrintLast Go.Proofs.YtfhnffondamhdaaW.PrintMore Go.Proofs.Ytfhnffondamhdaa.OwnBs Go.Proofs.Ytfhnffondamhdaa.OwnKp Go.Proofs.Ytfhnffondamhdaa.OwnCode Go.Proofs.Ytfhnffondamhdaa.OwnSt Go.Proofs.Ytfhnffondamhdaa.OwnEndsS Go.Proofs.Ytfhnffondamhdaa.OwnDeep Go.Proofs.Ytfhnffondamhdaa.OwnDeepEq Go.Proofs.Ytfhnffondamhdaa.OwnFn Go.Proofs.Ytfhnffondamhdaa.OwnBc Go.Proofs.Ytfhnffondamhdaa.OwnCodeS Go.Proofs.Ytfhnffondamhdaa.OwnCodeI Go.Proofs.Ytfhnffondamhdaa.OwnFb
set_option linter.unusedVariables false
set_option linter.unusedSimpArgs false
set_option maxRecDepth 100000 in
set_option maxHeartbeats 40000000 in
theorem l9_s (Ap : Option Addr) (cp : Nat) (p : List Int) (r : Int) (Al : Option Addr) (cl : Nat) (lo : List Int) (Ab : Option Addr) (cb : Nat) (b : List (Int × Int)) (w : World) (hr : FnR w Ap cp p Al cl lo Ab cb b) (g : fnG p r lo b = true) (hw : ∀ p ∈ b, -9223372036854775808 ≤ p.2 ∧ p.2 < 9223372036854775808) : Calls Try.prog 64 #[fnV Ap cp p r Al cl lo Ab cb b] w fun e w' => e = .returned (.string (fnS p r lo b)) ∧ Below w.heap.size w w' := by
  have HR := Aside0.mk hr
  have gs := fnG_says g
  have kp := Aside0.mk gs.1
  have kl := Aside0.mk gs.2.1
  have kz := Aside0.mk (codeS_size b gs.2.2 hw)
  have cp' := fun W (B : Below w.heap.size w W) => types_s Ap cp p W (Kd.C_below HR.out.p1 B) HR.out.p2 (by have := kp.out; omega)
  have cl' := fun W (B : Below w.heap.size w W) => types_s Al cl lo W (Kd.C_below HR.out.l1 B) HR.out.l2 (by have := kl.out; omega)
  have cb' := fun W (B : Below w.heap.size w W) => bytes_code Ab cb b W (Kd.C_below HR.out.b1 B) HR.out.b2 gs.2.2 hw
  have cu' := fun W => uleb_s ((codeS b).size : Int) (by omega) (by have := kz.out; omega) W
  have y1 := typesS_size p (by have := kp.out; omega)
  have y2 := typesS_size lo (by have := kl.out; omega)
  have y3 := (ulebS_told ((codeS b).size : Int) (by omega) (by have := kz.out; omega)).1
  have y0 : (strOfNums [r % 256]).size = 1 := by rw [Pl.strOfNums_size]; rfl
  have y4 := kz.out
  have ew : IntKind.u64.wrap ((codeS b).size : Int) = (codeS b).size := by rw [IntKind.wrap_u64]; omega
  replace y1 : (typesS p).size ≤ 100 := by have := kp.out; omega
  replace y2 : (typesS lo).size ≤ 100 := by have := kl.out; omega
  have x1 : (9223372036854775807 < (typesS p).size + (strOfNums [r % 256]).size) = False := eq_false (by omega)
  have x2 : (9223372036854775807 < (typesS p ++ strOfNums [r % 256]).size + (typesS lo).size) = False := eq_false (by rw [ByteArray.size_append]; omega)
  have x2' : (9223372036854775807 < (typesS p).size + (strOfNums [r % 256]).size + (typesS lo).size) = False := eq_false (by omega)
  have x3 : (9223372036854775807 < (typesS p ++ strOfNums [r % 256] ++ typesS lo).size + (ulebS ((codeS b).size : Int)).size) = False := eq_false (by rw [ByteArray.size_append, ByteArray.size_append]; omega)
  have x3' : (9223372036854775807 < (typesS p).size + (strOfNums [r % 256]).size + (typesS lo).size + (ulebS ((codeS b).size : Int)).size) = False := eq_false (by omega)
  have x4 : (9223372036854775807 < (typesS p ++ strOfNums [r % 256] ++ typesS lo ++ ulebS ((codeS b).size : Int)).size + (codeS b).size) = False := eq_false (by rw [ByteArray.size_append, ByteArray.size_append, ByteArray.size_append]; omega)
  have x4' : (9223372036854775807 < (typesS p).size + (strOfNums [r % 256]).size + (typesS lo).size + (ulebS ((codeS b).size : Int)).size + (codeS b).size) = False := eq_false (by omega)
  unfold fnS
  clear hr gs
  generalize typesS p = SA at *
  generalize typesS lo = SL at *
  generalize ulebS ((codeS b).size : Int) = SU at *
  generalize codeS b = SC at *
  have yz : (fun x => strOfNums [x]) (r % 256) = strOfNums [r % 256] := rfl
  clear yz
  clear y0 y1 y2 y3 y4 kp kl kz
  go_enter Try.func64, Try.ntmps64
  go_wp2_with (first
    | (go_at_call 98; (fail_if_success (have _ := hb1)); (with_reducible refine (cb' _ (by repeat (first | with_reducible first | exact Below.refl _ _ | refine below_alloc ?_ _ | refine below_drew1 ?_ | refine pw_below_drewN ?_ _ | refine below_set ?_ (by omega)))).mono ?_); rintro e w1 ⟨rfl, hb1⟩; obtain ⟨hc1, hf1⟩ := bcell hb1; have hz1_0_0 : w.heap.size < w1.heap.size := (by have := hb1.size; first | omega | (simp at this; omega))))
  have ew2 : IntKind.u8.wrap r = r % 256 := by rw [IntKind.wrap_u8]
  have hl1 := lit1_str
  have hl2 := lit1_drew
  have hx10 : w1.cell? ⟨w.heap.size, 0, none⟩ = some (.slice Ap p.length cp) := by rw [hc1 _ _ (by simp)]; go_simp
  have hx11 : w1.cell? ⟨w.heap.size, 1, none⟩ = some (.int .i64 r) := by rw [hc1 _ _ (by simp)]; go_simp
  have hx12 : w1.cell? ⟨w.heap.size, 2, none⟩ = some (.slice Al lo.length cl) := by rw [hc1 _ _ (by simp)]; go_simp
  go_region_held_law (fun w' => w'.cell? ⟨w.heap.size, 0, none⟩ = some (.slice Ap p.length cp) ∧ w'.cell? ⟨w.heap.size, 1, none⟩ = some (.int .i64 r) ∧ w'.cell? ⟨w.heap.size, 2, none⟩ = some (.slice Al lo.length cl)) (refine ⟨?_, ?_, ?_⟩ <;> go_simp) (first
    | (go_at_call 84; (fail_if_success (have _ := hb4)); have _ := hb3; (with_reducible refine (cu' _).mono ?_); rintro e w4 ⟨rfl, hb4⟩; (first | (have hv4 := lit1_kept _ _ _ (below_step (below_step hb2 hb3) hb4)) | (have hv4 := lit1_kept _ _ _ (below_step (below_step (below_step (below_drew1 (Below.refl _ _)) hb2) hb3) hb4)) | (have hv4 := lit1_kept _ _ _ (below_step hb3 hb4)) | (have hv4 := lit1_kept _ _ _ (hb4)) | skip); have hbq4 : Below w3.heap.size w3 w4 := below_step (by repeat (first | (with_reducible exact Below.refl _ _) | (with_reducible refine below_alloc ?_ _) | (with_reducible refine below_drew1 ?_))) hb4; have hc4 : ∀ b o, b < w3.heap.size → w4.cell? ⟨b, o, none⟩ = w3.cell? ⟨b, o, none⟩ := (bcell hbq4).1; have hf4 : ∀ b o, b < w3.heap.size → w4.frozen? ⟨b, o, none⟩ = w3.frozen? ⟨b, o, none⟩ := (bcell hbq4).2; have hz4_0_0 : w.heap.size < w4.heap.size := (by have := hb4.size; first | omega | (simp at this; omega)); have hx40 : w4.cell? ⟨w.heap.size, 0, none⟩ = some (.slice Ap p.length cp) := (by rw [hc4 _ _ (by first | exact hz3_0_0 | omega)]; first | exact hx30 | go_simp); have hx41 : w4.cell? ⟨w.heap.size, 1, none⟩ = some (.int .i64 r) := (by rw [hc4 _ _ (by first | exact hz3_0_0 | omega)]; first | exact hx31 | go_simp); have hx42 : w4.cell? ⟨w.heap.size, 2, none⟩ = some (.slice Al lo.length cl) := (by rw [hc4 _ _ (by first | exact hz3_0_0 | omega)]; first | exact hx32 | go_simp))
    | (go_at_call 99; (fail_if_success (have _ := hb3)); have _ := hb2; (with_reducible refine (cl' _ (by repeat (first | with_reducible first | exact Below.refl _ _ | refine below_alloc ?_ _ | refine below_drew1 ?_ | refine pw_below_drewN ?_ _ | refine below_set ?_ (by omega) | refine below_step ?_ hb2 | refine below_step ?_ hb1))).mono ?_); rintro e w3 ⟨rfl, hb3⟩; (first | (have hv3 := lit1_kept _ _ _ (below_step hb2 hb3)) | (have hv3 := lit1_kept _ _ _ (below_step (below_step (below_drew1 (Below.refl _ _)) hb2) hb3)) | (have hv3 := lit1_kept _ _ _ (hb3)) | skip); have hbq3 : Below w2.heap.size w2 w3 := below_step (by repeat (first | (with_reducible exact Below.refl _ _) | (with_reducible refine below_alloc ?_ _) | (with_reducible refine below_drew1 ?_))) hb3; have hc3 : ∀ b o, b < w2.heap.size → w3.cell? ⟨b, o, none⟩ = w2.cell? ⟨b, o, none⟩ := (bcell hbq3).1; have hf3 : ∀ b o, b < w2.heap.size → w3.frozen? ⟨b, o, none⟩ = w2.frozen? ⟨b, o, none⟩ := (bcell hbq3).2; have hz3_0_0 : w.heap.size < w3.heap.size := (by have := hb3.size; first | omega | (simp at this; omega)); have hx30 : w3.cell? ⟨w.heap.size, 0, none⟩ = some (.slice Ap p.length cp) := (by rw [hc3 _ _ (by first | exact hz2_0_0 | omega)]; first | exact hx20 | go_simp); have hx31 : w3.cell? ⟨w.heap.size, 1, none⟩ = some (.int .i64 r) := (by rw [hc3 _ _ (by first | exact hz2_0_0 | omega)]; first | exact hx21 | go_simp); have hx32 : w3.cell? ⟨w.heap.size, 2, none⟩ = some (.slice Al lo.length cl) := (by rw [hc3 _ _ (by first | exact hz2_0_0 | omega)]; first | exact hx22 | go_simp))
    | (go_at_call 99; (fail_if_success (have _ := hb2)); (with_reducible refine (cp' _ (by repeat (first | with_reducible first | exact Below.refl _ _ | refine below_alloc ?_ _ | refine below_drew1 ?_ | refine pw_below_drewN ?_ _ | refine below_set ?_ (by omega) | refine below_step ?_ hb1))).mono ?_); rintro e w2 ⟨rfl, hb2⟩; (first | (have hv2 := lit1_kept _ _ _ (hb2)) | (have hv2 := lit1_kept _ _ _ (below_step (below_drew1 (Below.refl _ _)) hb2)) | skip); have hbq2 : Below w1.heap.size w1 w2 := below_step (by repeat (first | (with_reducible exact Below.refl _ _) | (with_reducible refine below_alloc ?_ _) | (with_reducible refine below_drew1 ?_))) hb2; have hc2 : ∀ b o, b < w1.heap.size → w2.cell? ⟨b, o, none⟩ = w1.cell? ⟨b, o, none⟩ := (bcell hbq2).1; have hf2 : ∀ b o, b < w1.heap.size → w2.frozen? ⟨b, o, none⟩ = w1.frozen? ⟨b, o, none⟩ := (bcell hbq2).2; have hz2_0_0 : w.heap.size < w2.heap.size := (by have := hb2.size; first | omega | (simp at this; omega)); have hx20 : w2.cell? ⟨w.heap.size, 0, none⟩ = some (.slice Ap p.length cp) := (by rw [hc2 _ _ (by first | exact hz1_0_0 | omega)]; first | exact hx10 | go_simp); have hx21 : w2.cell? ⟨w.heap.size, 1, none⟩ = some (.int .i64 r) := (by rw [hc2 _ _ (by first | exact hz1_0_0 | omega)]; first | exact hx11 | go_simp); have hx22 : w2.cell? ⟨w.heap.size, 2, none⟩ = some (.slice Al lo.length cl) := (by rw [hc2 _ _ (by first | exact hz1_0_0 | omega)]; first | exact hx12 | go_simp)))
  all_goals
    simp only [Exit.then]
    first | (rename_i kk; refine kk _ _ ?_) | (rename_i kk _; refine kk _ _ ?_) | (rename_i kk _ _; refine kk _ _ ?_) | (rename_i kk _ _ _; refine kk _ _ ?_) | (rename_i kk _ _ _ _; refine kk _ _ ?_)
    go_wp2
    refine bodyPost_ret (v := .string (SA ++ strOfNums [r % 256] ++ SL ++ SU ++ SC)) (by simp [results, Try.results64, go_sem, hc1, hf1, hz1_0_0, hc2, hf2, hz2_0_0, hc3, hf3, hz3_0_0, hc4, hf4, hz4_0_0]) rfl ⟨rfl, ?_⟩
    repeat (first | with_reducible first | exact Below.refl _ _ | refine below_alloc ?_ _ | refine below_drew1 ?_ | refine pw_below_drewN ?_ _ | refine below_set ?_ (by omega) | refine below_step ?_ hb4 | refine below_step ?_ hb3 | refine below_step ?_ hb2 | refine below_step ?_ hb1)
end Go.Proofs.Ytfhnffondamhdaa.OwnFbS
namespace Go.Proofs.Ytfhnffondamhdaa.OwnFbI
open Go Go.RowKit Go.Proofs.YtfhnffondamhdaaW.PrintWords Go.Proofs.YtfhnffondamhdaaW.PrintLast Go.Proofs.YtfhnffondamhdaaW.PrintMore Go.Proofs.Ytfhnffondamhdaa.OwnBs Go.Proofs.Ytfhnffondamhdaa.OwnKp Go.Proofs.Ytfhnffondamhdaa.OwnCode Go.Proofs.Ytfhnffondamhdaa.OwnSt Go.Proofs.Ytfhnffondamhdaa.OwnEndsS Go.Proofs.Ytfhnffondamhdaa.OwnDeep Go.Proofs.Ytfhnffondamhdaa.OwnDeepEq Go.Proofs.Ytfhnffondamhdaa.OwnFn Go.Proofs.Ytfhnffondamhdaa.OwnBc Go.Proofs.Ytfhnffondamhdaa.OwnCodeS Go.Proofs.Ytfhnffondamhdaa.OwnCodeI Go.Proofs.Ytfhnffondamhdaa.OwnFb
set_option linter.unusedVariables false
set_option linter.unusedSimpArgs false
set_option maxRecDepth 100000 in
set_option maxHeartbeats 40000000 in
theorem fb_i_good (Ap : Option Addr) (cp : Nat) (p : List Int) (r : Int) (Al : Option Addr) (cl : Nat) (lo : List Int) (Ab : Option Addr) (cb : Nat) (b : List (Int × Int)) (w : World) (hr : FnR w Ap cp p Al cl lo Ab cb b) (g : fnG p r lo b = true) (hw : ∀ p ∈ b, -9223372036854775808 ≤ p.2 ∧ p.2 < 9223372036854775808) (bq : Bool) (hq : decide (900 < (fnS p r lo b).size) = bq) : Calls Try.prog 27 #[fnV Ap cp p r Al cl lo Ab cb b] w fun e w' => e = .returned (bif bq then .tuple #[.string ⟨#[]⟩, .bool false] else .tuple #[.string (fnS p r lo b), .bool true]) ∧ Below w.heap.size w w' := by
  have cg' := fun W (B : Below w.heap.size w W) => good_fn_i Ap cp p r Al cl lo Ab cb b W (hr.below B) (by have := (fnG_says g).1; omega) (by have := (fnG_says g).2.1; omega) (by have := goodC_len (fnG_says g).2.2; omega)
  rw [g] at cg'
  have HR := Aside0.mk hr
  have gs := fnG_says g
  have kp := Aside0.mk gs.1
  have kl := Aside0.mk gs.2.1
  have kz := Aside0.mk (codeS_size b gs.2.2 hw)
  have cp' := fun W (B : Below w.heap.size w W) => types_i Ap cp p W (Kd.C_below HR.out.p1 B) HR.out.p2 (by have := kp.out; omega)
  have cl' := fun W (B : Below w.heap.size w W) => types_i Al cl lo W (Kd.C_below HR.out.l1 B) HR.out.l2 (by have := kl.out; omega)
  have cb' := fun W (B : Below w.heap.size w W) => code_i Ab cb b W (Kd.C_below HR.out.b1 B) HR.out.b2 gs.2.2 hw
  have cu' := fun W => uleb_i ((codeS b).size : Int) (by omega) (by have := kz.out; omega) W
  have y1 := typesS_size p (by have := kp.out; omega)
  have y2 := typesS_size lo (by have := kl.out; omega)
  have y3 := (ulebS_told ((codeS b).size : Int) (by omega) (by have := kz.out; omega)).1
  have y0 : (strOfNums [r % 256]).size = 1 := by rw [Pl.strOfNums_size]; rfl
  have y4 := kz.out
  have ew : IntKind.u64.wrap ((codeS b).size : Int) = (codeS b).size := by rw [IntKind.wrap_u64]; omega
  replace y1 : (typesS p).size ≤ 100 := by have := kp.out; omega
  replace y2 : (typesS lo).size ≤ 100 := by have := kl.out; omega
  have x1 : (9223372036854775807 < (typesS p).size + (strOfNums [r % 256]).size) = False := eq_false (by omega)
  have x2 : (9223372036854775807 < (typesS p ++ strOfNums [r % 256]).size + (typesS lo).size) = False := eq_false (by rw [ByteArray.size_append]; omega)
  have x2' : (9223372036854775807 < (typesS p).size + (strOfNums [r % 256]).size + (typesS lo).size) = False := eq_false (by omega)
  have x3 : (9223372036854775807 < (typesS p ++ strOfNums [r % 256] ++ typesS lo).size + (ulebS ((codeS b).size : Int)).size) = False := eq_false (by rw [ByteArray.size_append, ByteArray.size_append]; omega)
  have x3' : (9223372036854775807 < (typesS p).size + (strOfNums [r % 256]).size + (typesS lo).size + (ulebS ((codeS b).size : Int)).size) = False := eq_false (by omega)
  have x4 : (9223372036854775807 < (typesS p ++ strOfNums [r % 256] ++ typesS lo ++ ulebS ((codeS b).size : Int)).size + (codeS b).size) = False := eq_false (by rw [ByteArray.size_append, ByteArray.size_append, ByteArray.size_append]; omega)
  have x4' : (9223372036854775807 < (typesS p).size + (strOfNums [r % 256]).size + (typesS lo).size + (ulebS ((codeS b).size : Int)).size + (codeS b).size) = False := eq_false (by omega)
  unfold fnS at *
  have q1 : decide ((900 : Int) < ((typesS p ++ strOfNums [r % 256] ++ typesS lo ++ ulebS ((codeS b).size : Int) ++ codeS b).size : Int)) = bq := by rw [← hq]; exact decide_eq_decide.2 (by omega)
  have q2 : decide (900 < (typesS p).size + (strOfNums [r % 256]).size + (typesS lo).size + (ulebS ((codeS b).size : Int)).size + (codeS b).size) = bq := by rw [← hq]; simp only [ByteArray.size_append]
  have q3 : decide ((900 : Int) < ((typesS p).size : Int) + ((strOfNums [r % 256]).size : Int) + ((typesS lo).size : Int) + ((ulebS ((codeS b).size : Int)).size : Int) + ((codeS b).size : Int)) = bq := by rw [← q2]; exact decide_eq_decide.2 (by omega)
  clear hr gs g
  generalize typesS p = SA at *
  generalize typesS lo = SL at *
  generalize ulebS ((codeS b).size : Int) = SU at *
  generalize codeS b = SC at *
  have yz : (fun x => strOfNums [x]) (r % 256) = strOfNums [r % 256] := rfl
  clear yz
  clear y0 y1 y2 y3 y4 kp kl kz
  go_enter Try.func27, Try.ntmps27
  go_upto_region 4 with (first
    | (go_at_call 68; (fail_if_success (have _ := hb2)); have _ := hb1; (with_reducible refine (cb' _ (by repeat (first | with_reducible first | exact Below.refl _ _ | refine below_alloc ?_ _ | refine below_drew1 ?_ | refine pw_below_drewN ?_ _ | refine below_set ?_ (by omega) | refine below_step ?_ hb1))).mono ?_); rintro e w2 ⟨rfl, hb2⟩; obtain ⟨hc2, hf2⟩ := bcell hb2; have hz2_0_0 : w.heap.size < w2.heap.size := (by have := hb2.size; first | omega | (simp at this; omega)))
    | (go_at_call 67; (fail_if_success (have _ := hb1)); (with_reducible refine (cg' _ (by repeat (first | with_reducible first | exact Below.refl _ _ | refine below_alloc ?_ _ | refine below_drew1 ?_ | refine pw_below_drewN ?_ _ | refine below_set ?_ (by omega)))).mono ?_); rintro e w1 ⟨rfl, hb1⟩; obtain ⟨hc1, hf1⟩ := bcell hb1; have hz1_0_0 : w.heap.size < w1.heap.size := (by have := hb1.size; first | omega | (simp at this; omega))))
  go_cut [6] (fun v6 wx => v6 = .string (SA ++ strOfNums [r % 256] ++ SL ++ SU ++ SC) ∧ Below w.heap.size w wx)
  case first =>
    have ew2 : IntKind.u8.wrap r = r % 256 := by rw [IntKind.wrap_u8]
    have hl1 := lit1_str
    have hl2 := lit1_drew
    have hx20 : w2.cell? ⟨w.heap.size, 0, none⟩ = some (.slice Ap p.length cp) := by simp [hc1, go_sem, hc1, hz1_0_0, hc2, hz2_0_0]
    have hx21 : w2.cell? ⟨w.heap.size, 1, none⟩ = some (.int .i64 r) := by simp [hc1, go_sem, hc1, hz1_0_0, hc2, hz2_0_0]
    have hx22 : w2.cell? ⟨w.heap.size, 2, none⟩ = some (.slice Al lo.length cl) := by simp [hc1, go_sem, hc1, hz1_0_0, hc2, hz2_0_0]
    go_region_held_law (fun w' => w'.cell? ⟨w.heap.size, 0, none⟩ = some (.slice Ap p.length cp) ∧ w'.cell? ⟨w.heap.size, 1, none⟩ = some (.int .i64 r) ∧ w'.cell? ⟨w.heap.size, 2, none⟩ = some (.slice Al lo.length cl)) (refine ⟨?_, ?_, ?_⟩ <;> go_simp) (first
      | (go_at_call 51; (fail_if_success (have _ := hb5)); have _ := hb4; (with_reducible refine (cu' _).mono ?_); rintro e w5 ⟨rfl, hb5⟩; (first | (have hv5 := lit1_kept _ _ _ (below_step (below_step hb3 hb4) hb5)) | (have hv5 := lit1_kept _ _ _ (below_step (below_step (below_step (below_drew1 (Below.refl _ _)) hb3) hb4) hb5)) | (have hv5 := lit1_kept _ _ _ (below_step hb4 hb5)) | (have hv5 := lit1_kept _ _ _ (hb5)) | skip); have hbq5 : Below w4.heap.size w4 w5 := below_step (by repeat (first | (with_reducible exact Below.refl _ _) | (with_reducible refine below_alloc ?_ _) | (with_reducible refine below_drew1 ?_))) hb5; have hc5 : ∀ b o, b < w4.heap.size → w5.cell? ⟨b, o, none⟩ = w4.cell? ⟨b, o, none⟩ := (bcell hbq5).1; have hf5 : ∀ b o, b < w4.heap.size → w5.frozen? ⟨b, o, none⟩ = w4.frozen? ⟨b, o, none⟩ := (bcell hbq5).2; have hz5_0_0 : w.heap.size < w5.heap.size := (by have := hb5.size; first | omega | (simp at this; omega)); have hx50 : w5.cell? ⟨w.heap.size, 0, none⟩ = some (.slice Ap p.length cp) := (by rw [hc5 _ _ (by first | exact hz4_0_0 | omega)]; first | exact hx40 | go_simp); have hx51 : w5.cell? ⟨w.heap.size, 1, none⟩ = some (.int .i64 r) := (by rw [hc5 _ _ (by first | exact hz4_0_0 | omega)]; first | exact hx41 | go_simp); have hx52 : w5.cell? ⟨w.heap.size, 2, none⟩ = some (.slice Al lo.length cl) := (by rw [hc5 _ _ (by first | exact hz4_0_0 | omega)]; first | exact hx42 | go_simp))
      | (go_at_call 69; (fail_if_success (have _ := hb4)); have _ := hb3; (with_reducible refine (cl' _ (by repeat (first | with_reducible first | exact Below.refl _ _ | refine below_alloc ?_ _ | refine below_drew1 ?_ | refine pw_below_drewN ?_ _ | refine below_set ?_ (by omega) | refine below_step ?_ hb3 | refine below_step ?_ hb2 | refine below_step ?_ hb1))).mono ?_); rintro e w4 ⟨rfl, hb4⟩; (first | (have hv4 := lit1_kept _ _ _ (below_step hb3 hb4)) | (have hv4 := lit1_kept _ _ _ (below_step (below_step (below_drew1 (Below.refl _ _)) hb3) hb4)) | (have hv4 := lit1_kept _ _ _ (hb4)) | skip); have hbq4 : Below w3.heap.size w3 w4 := below_step (by repeat (first | (with_reducible exact Below.refl _ _) | (with_reducible refine below_alloc ?_ _) | (with_reducible refine below_drew1 ?_))) hb4; have hc4 : ∀ b o, b < w3.heap.size → w4.cell? ⟨b, o, none⟩ = w3.cell? ⟨b, o, none⟩ := (bcell hbq4).1; have hf4 : ∀ b o, b < w3.heap.size → w4.frozen? ⟨b, o, none⟩ = w3.frozen? ⟨b, o, none⟩ := (bcell hbq4).2; have hz4_0_0 : w.heap.size < w4.heap.size := (by have := hb4.size; first | omega | (simp at this; omega)); have hx40 : w4.cell? ⟨w.heap.size, 0, none⟩ = some (.slice Ap p.length cp) := (by rw [hc4 _ _ (by first | exact hz3_0_0 | omega)]; first | exact hx30 | go_simp); have hx41 : w4.cell? ⟨w.heap.size, 1, none⟩ = some (.int .i64 r) := (by rw [hc4 _ _ (by first | exact hz3_0_0 | omega)]; first | exact hx31 | go_simp); have hx42 : w4.cell? ⟨w.heap.size, 2, none⟩ = some (.slice Al lo.length cl) := (by rw [hc4 _ _ (by first | exact hz3_0_0 | omega)]; first | exact hx32 | go_simp))
      | (go_at_call 69; (fail_if_success (have _ := hb3)); (with_reducible refine (cp' _ (by repeat (first | with_reducible first | exact Below.refl _ _ | refine below_alloc ?_ _ | refine below_drew1 ?_ | refine pw_below_drewN ?_ _ | refine below_set ?_ (by omega) | refine below_step ?_ hb2 | refine below_step ?_ hb1))).mono ?_); rintro e w3 ⟨rfl, hb3⟩; (first | (have hv3 := lit1_kept _ _ _ (hb3)) | (have hv3 := lit1_kept _ _ _ (below_step (below_drew1 (Below.refl _ _)) hb3)) | skip); have hbq3 : Below w2.heap.size w2 w3 := below_step (by repeat (first | (with_reducible exact Below.refl _ _) | (with_reducible refine below_alloc ?_ _) | (with_reducible refine below_drew1 ?_))) hb3; have hc3 : ∀ b o, b < w2.heap.size → w3.cell? ⟨b, o, none⟩ = w2.cell? ⟨b, o, none⟩ := (bcell hbq3).1; have hf3 : ∀ b o, b < w2.heap.size → w3.frozen? ⟨b, o, none⟩ = w2.frozen? ⟨b, o, none⟩ := (bcell hbq3).2; have hz3_0_0 : w.heap.size < w3.heap.size := (by have := hb3.size; first | omega | (simp at this; omega)); have hx30 : w3.cell? ⟨w.heap.size, 0, none⟩ = some (.slice Ap p.length cp) := (by rw [hc3 _ _ (by first | exact hz2_0_0 | omega)]; first | exact hx20 | go_simp); have hx31 : w3.cell? ⟨w.heap.size, 1, none⟩ = some (.int .i64 r) := (by rw [hc3 _ _ (by first | exact hz2_0_0 | omega)]; first | exact hx21 | go_simp); have hx32 : w3.cell? ⟨w.heap.size, 2, none⟩ = some (.slice Al lo.length cl) := (by rw [hc3 _ _ (by first | exact hz2_0_0 | omega)]; first | exact hx22 | go_simp)))
    all_goals
      go_wp2_with fail
      go_meet
      case rel => exact ⟨rfl, by repeat (first | with_reducible first | exact Below.refl _ _ | refine below_alloc ?_ _ | refine below_drew1 ?_ | refine pw_below_drewN ?_ _ | refine below_set ?_ (by omega) | refine below_step ?_ hb5 | refine below_step ?_ hb4 | refine below_step ?_ hb3 | refine below_step ?_ hb2 | refine below_step ?_ hb1)⟩
  case rest =>
    obtain ⟨rfl, hbc⟩ := hcut
    cases bq with
    | true =>
      go_wp2
      refine bodyPost_ret (v := .tuple #[.string ⟨#[]⟩, .bool false]) (by simp [results, Try.results27, go_sem]) rfl ⟨rfl, ?_⟩
      with_reducible exact hbc
    | false =>
      go_wp2
      refine bodyPost_ret (v := .tuple #[.string (SA ++ strOfNums [r % 256] ++ SL ++ SU ++ SC), .bool true]) (by simp [results, Try.results27, go_sem]) rfl ⟨rfl, ?_⟩
      with_reducible exact hbc
end Go.Proofs.Ytfhnffondamhdaa.OwnFbI
namespace Go.Proofs.Ytfhnffondamhdaa.OwnFbC
open Go Go.RowKit Go.Proofs.YtfhnffondamhdaaW.PrintWords Go.Proofs.YtfhnffondamhdaaW.PrintLast Go.Proofs.YtfhnffondamhdaaW.PrintMore Go.Proofs.Ytfhnffondamhdaa.OwnBs Go.Proofs.Ytfhnffondamhdaa.OwnKp Go.Proofs.Ytfhnffondamhdaa.OwnCode Go.Proofs.Ytfhnffondamhdaa.OwnSt Go.Proofs.Ytfhnffondamhdaa.OwnEndsS Go.Proofs.Ytfhnffondamhdaa.OwnDeep Go.Proofs.Ytfhnffondamhdaa.OwnDeepEq Go.Proofs.Ytfhnffondamhdaa.OwnFn Go.Proofs.Ytfhnffondamhdaa.OwnBc Go.Proofs.Ytfhnffondamhdaa.OwnCodeS Go.Proofs.Ytfhnffondamhdaa.OwnCodeI Go.Proofs.Ytfhnffondamhdaa.OwnFb Go.Proofs.Ytfhnffondamhdaa.OwnFbS Go.Proofs.Ytfhnffondamhdaa.OwnFbI
set_option linter.unusedVariables false
set_option linter.unusedSimpArgs false
/-- What FuncBytes tells. -/
def fbM (p : List Int) (r : Int) (lo : List Int) (b : List (Int × Int)) : ByteArray × Bool :=
  if fnG p r lo b = true then (if 900 < (fnS p r lo b).size then (⟨#[]⟩, false) else (fnS p r lo b, true)) else (⟨#[]⟩, false)
set_option maxRecDepth 100000 in
set_option maxHeartbeats 40000000 in
theorem fb_s (Ap : Option Addr) (cp : Nat) (p : List Int) (r : Int) (Al : Option Addr) (cl : Nat) (lo : List Int) (Ab : Option Addr) (cb : Nat) (b : List (Int × Int)) (w : World) (hr : FnR w Ap cp p Al cl lo Ab cb b) (hp : p.length ≤ 1048576) (hl : lo.length ≤ 1048576) (hb : b.length ≤ 1048576) (hw : ∀ p ∈ b, -9223372036854775808 ≤ p.2 ∧ p.2 < 9223372036854775808) : Calls Try.prog 25 #[fnV Ap cp p r Al cl lo Ab cb b] w fun e w' => e = .returned (.tuple #[.string (fbM p r lo b).1, .bool (fbM p r lo b).2]) ∧ Below w.heap.size w w' := by
  have HR := Aside0.mk hr
  have cg' := fun W (B : Below w.heap.size w W) => good_fn_s Ap cp p r Al cl lo Ab cb b W (HR.out.below B) hp hl hb
  unfold fbM
  by_cases g : fnG p r lo b = true
  · rw [if_pos g]
    have cs' := fun W (B : Below w.heap.size w W) => l9_s Ap cp p r Al cl lo Ab cb b W (HR.out.below B) g hw
    rw [g] at cg'
    clear hr hp hl hb hw g
    generalize fnS p r lo b = S at *
    by_cases z : 900 < S.size
    · rw [if_pos z]
      have hd : decide ((900 : Int) < (S.size : Int)) = true := decide_eq_true (by omega)
      have hd2 : decide (900 < S.size) = true := decide_eq_true (by omega)
      go_enter Try.func25, Try.ntmps25
      go_wp2_with (first
        | (go_at_call 64; (fail_if_success (have _ := hb2)); have _ := hb1; (with_reducible refine (cs' _ (by repeat (first | with_reducible first | exact Below.refl _ _ | refine below_alloc ?_ _ | refine below_drew1 ?_ | refine pw_below_drewN ?_ _ | refine below_set ?_ (by omega) | refine below_step ?_ hb1))).mono ?_); rintro e w2 ⟨rfl, hb2⟩; obtain ⟨hc2, hf2⟩ := bcell hb2; have hz2_0_0 : w.heap.size < w2.heap.size := (by have := hb2.size; first | omega | (simp at this; omega)))
        | (go_at_call 63; (fail_if_success (have _ := hb1)); (with_reducible refine (cg' _ (by repeat (first | with_reducible first | exact Below.refl _ _ | refine below_alloc ?_ _ | refine below_drew1 ?_ | refine pw_below_drewN ?_ _ | refine below_set ?_ (by omega)))).mono ?_); rintro e w1 ⟨rfl, hb1⟩; obtain ⟨hc1, hf1⟩ := bcell hb1; have hz1_0_0 : w.heap.size < w1.heap.size := (by have := hb1.size; first | omega | (simp at this; omega))))
      refine bodyPost_ret (v := .tuple #[.string ⟨#[]⟩, .bool false]) (by simp [results, Try.results25, go_sem, hc1, hf1, hz1_0_0, hc2, hf2, hz2_0_0]) rfl ⟨rfl, ?_⟩
      repeat (first | with_reducible first | exact Below.refl _ _ | refine below_alloc ?_ _ | refine below_drew1 ?_ | refine pw_below_drewN ?_ _ | refine below_set ?_ (by omega) | refine below_step ?_ hb2 | refine below_step ?_ hb1)
    · rw [if_neg z]
      have hd : decide ((900 : Int) < (S.size : Int)) = false := decide_eq_false (by omega)
      have hd2 : decide (900 < S.size) = false := decide_eq_false (by omega)
      go_enter Try.func25, Try.ntmps25
      go_wp2_with (first
        | (go_at_call 64; (fail_if_success (have _ := hb2)); have _ := hb1; (with_reducible refine (cs' _ (by repeat (first | with_reducible first | exact Below.refl _ _ | refine below_alloc ?_ _ | refine below_drew1 ?_ | refine pw_below_drewN ?_ _ | refine below_set ?_ (by omega) | refine below_step ?_ hb1))).mono ?_); rintro e w2 ⟨rfl, hb2⟩; obtain ⟨hc2, hf2⟩ := bcell hb2; have hz2_0_0 : w.heap.size < w2.heap.size := (by have := hb2.size; first | omega | (simp at this; omega)))
        | (go_at_call 63; (fail_if_success (have _ := hb1)); (with_reducible refine (cg' _ (by repeat (first | with_reducible first | exact Below.refl _ _ | refine below_alloc ?_ _ | refine below_drew1 ?_ | refine pw_below_drewN ?_ _ | refine below_set ?_ (by omega)))).mono ?_); rintro e w1 ⟨rfl, hb1⟩; obtain ⟨hc1, hf1⟩ := bcell hb1; have hz1_0_0 : w.heap.size < w1.heap.size := (by have := hb1.size; first | omega | (simp at this; omega))))
      refine bodyPost_ret (v := .tuple #[.string S, .bool true]) (by simp [results, Try.results25, go_sem, hc1, hf1, hz1_0_0, hc2, hf2, hz2_0_0]) rfl ⟨rfl, ?_⟩
      repeat (first | with_reducible first | exact Below.refl _ _ | refine below_alloc ?_ _ | refine below_drew1 ?_ | refine pw_below_drewN ?_ _ | refine below_set ?_ (by omega) | refine below_step ?_ hb2 | refine below_step ?_ hb1)
  · rw [if_neg g]
    rw [Bool.not_eq_true] at g
    rw [g] at cg'
    clear hr hp hl hb hw g
    go_enter Try.func25, Try.ntmps25
    go_wp2_with (first
      | (go_at_call 63; (fail_if_success (have _ := hb1)); (with_reducible refine (cg' _ (by repeat (first | with_reducible first | exact Below.refl _ _ | refine below_alloc ?_ _ | refine below_drew1 ?_ | refine pw_below_drewN ?_ _ | refine below_set ?_ (by omega)))).mono ?_); rintro e w1 ⟨rfl, hb1⟩; obtain ⟨hc1, hf1⟩ := bcell hb1; have hz1_0_0 : w.heap.size < w1.heap.size := (by have := hb1.size; first | omega | (simp at this; omega))))
    refine bodyPost_ret (v := .tuple #[.string ⟨#[]⟩, .bool false]) (by simp [results, Try.results25, go_sem, hc1, hf1, hz1_0_0]) rfl ⟨rfl, ?_⟩
    repeat (first | with_reducible first | exact Below.refl _ _ | refine below_alloc ?_ _ | refine below_drew1 ?_ | refine pw_below_drewN ?_ _ | refine below_set ?_ (by omega) | refine below_step ?_ hb1)
set_option maxRecDepth 100000 in
set_option maxHeartbeats 40000000 in
theorem fb_i (Ap : Option Addr) (cp : Nat) (p : List Int) (r : Int) (Al : Option Addr) (cl : Nat) (lo : List Int) (Ab : Option Addr) (cb : Nat) (b : List (Int × Int)) (w : World) (hr : FnR w Ap cp p Al cl lo Ab cb b) (hp : p.length ≤ 1048576) (hl : lo.length ≤ 1048576) (hb : b.length ≤ 1048576) (hw : ∀ p ∈ b, -9223372036854775808 ≤ p.2 ∧ p.2 < 9223372036854775808) : Calls Try.prog 27 #[fnV Ap cp p r Al cl lo Ab cb b] w fun e w' => e = .returned (.tuple #[.string (fbM p r lo b).1, .bool (fbM p r lo b).2]) ∧ Below w.heap.size w w' := by
  have HR := Aside0.mk hr
  have cg' := fun W (B : Below w.heap.size w W) => good_fn_i Ap cp p r Al cl lo Ab cb b W (HR.out.below B) hp hl hb
  unfold fbM
  by_cases g : fnG p r lo b = true
  · rw [if_pos g]
    by_cases z : 900 < (fnS p r lo b).size
    · rw [if_pos z]
      exact fb_i_good Ap cp p r Al cl lo Ab cb b w hr g hw true (decide_eq_true z)
    · rw [if_neg z]
      exact fb_i_good Ap cp p r Al cl lo Ab cb b w hr g hw false (decide_eq_false z)
  · rw [if_neg g]
    rw [Bool.not_eq_true] at g
    rw [g] at cg'
    clear hr hp hl hb hw g
    go_enter Try.func27, Try.ntmps27
    go_wp2_with (first
      | (go_at_call 67; (fail_if_success (have _ := hb1)); (with_reducible refine (cg' _ (by repeat (first | with_reducible first | exact Below.refl _ _ | refine below_alloc ?_ _ | refine below_drew1 ?_ | refine pw_below_drewN ?_ _ | refine below_set ?_ (by omega)))).mono ?_); rintro e w1 ⟨rfl, hb1⟩; obtain ⟨hc1, hf1⟩ := bcell hb1; have hz1_0_0 : w.heap.size < w1.heap.size := (by have := hb1.size; first | omega | (simp at this; omega))))
    refine bodyPost_ret (v := .tuple #[.string ⟨#[]⟩, .bool false]) (by simp [results, Try.results27, go_sem, hc1, hf1, hz1_0_0]) rfl ⟨rfl, ?_⟩
    repeat (first | with_reducible first | exact Below.refl _ _ | refine below_alloc ?_ _ | refine below_drew1 ?_ | refine pw_below_drewN ?_ _ | refine below_set ?_ (by omega) | refine below_step ?_ hb1)
end Go.Proofs.Ytfhnffondamhdaa.OwnFbC
namespace Go.Proofs.Ytfhnffondamhdaa.OwnSec
open Go Go.RowKit Go.Proofs.YtfhnffondamhdaaW.PrintWords Go.Proofs.YtfhnffondamhdaaW.PrintLast Go.Proofs.YtfhnffondamhdaaW.PrintMore Go.Proofs.Ytfhnffondamhdaa.OwnBs Go.Proofs.Ytfhnffondamhdaa.OwnKp Go.Proofs.Ytfhnffondamhdaa.OwnCode Go.Proofs.Ytfhnffondamhdaa.OwnGs
set_option linter.unusedVariables false
set_option linter.unusedSimpArgs false
/-- A section: its number and its text. -/
abbrev kS : Kd (Int × ByteArray) := Kd.pair (Kd.int .i64) Kd.string
theorem at_sec {w : World} {A : Option Addr} {n : Nat} {l : List (Int × ByteArray)} (h : Kd.C kS w A n l) (i : Nat) (hi : i < l.length) : ∃ ad, A = some ad ∧ w.cell? (ad.add (i * 2)) = some (.int .i64 l[i].1) ∧ w.cell? ⟨(ad.add (i * 2)).block, (ad.add (i * 2)).off + 1, none⟩ = some (.string l[i].2) := by
  obtain ⟨h1, h2, h3⟩ := h
  obtain ⟨ad, e, h4⟩ := h3 (by omega)
  obtain ⟨c, hc, hk, hu⟩ := h4 i l[i] (List.getElem?_eq_getElem hi)
  obtain ⟨c0, c1, rfl, k0, k1⟩ := hk
  have e0 : c0 = [.int .i64 l[i].1] := k0
  have e1 : c1 = [.string l[i].2] := k1
  subst e0; subst e1
  refine ⟨ad, e, ?_, ?_⟩
  · exact hu 0 _ rfl
  · rw [← add_field ad (i * 2) 1 (by decide)]
    exact hu 1 _ rfl
def sAt (l : List (Int × ByteArray)) (i : Nat) : Int × ByteArray := l.getD i (0, ⟨#[]⟩)
theorem sAt_eq (l : List (Int × ByteArray)) (i : Nat) (h : i < l.length) : sAt l i = l[i] := by
  unfold sAt
  rw [List.getD_eq_getElem?_getD, List.getElem?_eq_getElem h]; rfl
def okAt (l : List (Int × ByteArray)) (i : Nat) : Bool := decide (0 ≤ (sAt l i).1 ∧ (sAt l i).1 ≤ 20 ∧ ((sAt l i).2.size : Int) ≤ 1000 ∧ (0 < i → (sAt l (i - 1)).1 < (sAt l i).1))
def okFrom (l : List (Int × ByteArray)) : Nat → Nat → Bool
  | 0, _ => true
  | m + 1, i => okAt l i && okFrom l m (i + 1)
/-- Good sections. -/
def goodS (l : List (Int × ByteArray)) : Bool := okFrom l l.length 0 && decide (l.length ≤ 20)
theorem okFrom_at (l : List (Int × ByteArray)) : ∀ (m i : Nat), okFrom l m i = true → ∀ j, i ≤ j → j < i + m → okAt l j = true
  | 0, _, _, _, _, _ => by omega
  | m + 1, i, h, j, h1, h2 => by
    unfold okFrom at h
    rw [Bool.and_eq_true] at h
    rcases Nat.lt_or_ge i j with k | k
    · exact okFrom_at l m (i + 1) h.2 j (by omega) (by omega)
    · obtain rfl : i = j := by omega
      exact h.1
theorem goodS_len {l : List (Int × ByteArray)} (h : goodS l = true) : l.length ≤ 20 := by
  unfold goodS at h
  rw [Bool.and_eq_true, decide_eq_true_eq] at h
  exact h.2
theorem goodS_at {l : List (Int × ByteArray)} (h : goodS l = true) (i : Nat) (hi : i < l.length) : 0 ≤ l[i].1 ∧ l[i].1 ≤ 20 ∧ l[i].2.size ≤ 1000 := by
  unfold goodS at h
  rw [Bool.and_eq_true] at h
  have := okFrom_at l _ _ h.1 i (by omega) (by omega)
  unfold okAt at this
  rw [decide_eq_true_eq, sAt_eq l i hi] at this
  omega
theorem prev_idx (i : Nat) (h : 0 < i) (hl : i ≤ 9223372036854775807) : wrap64 ((i : Int) - 1) = ((i - 1 : Nat) : Int) := by
  rw [Pl.w64 (by omega) (by omega)]; omega
theorem okFrom_of (l : List (Int × ByteArray)) : ∀ (m i : Nat), (∀ j, i ≤ j → j < i + m → okAt l j = true) → okFrom l m i = true
  | 0, _, _ => rfl
  | m + 1, i, h => by
    unfold okFrom
    rw [h i (Nat.le_refl _) (by omega), okFrom_of l m (i + 1) (fun j h1 h2 => h j (by omega) (by omega))]
    rfl
theorem sec_bad {l : List (Int × ByteArray)} (i : Nat) (hi : i < l.length) (h : okAt l i = false) : goodS l = false := by
  cases e : goodS l with
  | false => rfl
  | true =>
    unfold goodS at e
    rw [Bool.and_eq_true] at e
    have := okFrom_at l _ _ e.1 i (by omega) (by omega)
    rw [h] at this
    cases this
theorem sec_ok {l : List (Int × ByteArray)} (h : ∀ j, j < l.length → okAt l j = true) : goodS l = decide (l.length ≤ 20) := by
  unfold goodS
  rw [okFrom_of l l.length 0 (fun j _ h2 => h j (by omega)), Bool.true_and]
theorem okAt_bad {l : List (Int × ByteArray)} {i : Nat} (hi : i < l.length) (h : ¬ (0 ≤ l[i].1 ∧ l[i].1 ≤ 20) ∨ 1000 < l[i].2.size ∨ (0 < i ∧ l[i].1 ≤ (sAt l (i - 1)).1)) : okAt l i = false := by
  unfold okAt
  rw [sAt_eq l i hi]
  exact decide_eq_false (by omega)
theorem okAt_ok {l : List (Int × ByteArray)} {i : Nat} (hi : i < l.length) (h1 : 0 ≤ l[i].1 ∧ l[i].1 ≤ 20) (h2 : l[i].2.size ≤ 1000) (h3 : 0 < i → (sAt l (i - 1)).1 < l[i].1) : okAt l i = true := by
  unfold okAt
  rw [sAt_eq l i hi]
  exact decide_eq_true ⟨h1.1, h1.2, by omega, h3⟩
set_option maxRecDepth 100000 in
set_option maxHeartbeats 8000000 in
theorem good_s (A : Option Addr) (c : Nat) (l : List (Int × ByteArray)) (w : World) (hr : Kd.C kS w A l.length l) (hc : l.length ≤ c) (hl : l.length ≤ 1048576) : Calls Try.prog 110 #[.slice A l.length c] w fun e w' => e = .returned (.bool (goodS l)) ∧ Below w.heap.size w w' := by
  have HR := Aside0.mk hr
  have HL := Aside0.mk hl
  generalize hV : goodS l = R
  have HV := Aside0.mk hV
  clear hr hc hl hV
  go_enter Try.func110, Try.ntmps110
  go_wp2
  go_loopg [7] l.length (fun kq v w' => ∃ i : Nat, i + kq = l.length ∧ v = .int .i64 i ∧ Aside0 (∀ j, j < i → okAt l j = true) ∧ Aside0 (Below w.heap.size w w'))
  case atStart => exact ⟨0, by omega, rfl, ⟨fun j h => absurd h (Nat.not_lt_zero _)⟩, ⟨by with_reducible repeat first | exact Below.refl _ _ | refine below_alloc ?_ _ | refine below_drew1 ?_ | refine pw_below_drewN ?_ _⟩⟩
  case round =>
    obtain ⟨i, hi, rfl, HA, HB⟩ := hrel
    cases gk with
    | zero =>
      obtain rfl : i = l.length := by omega
      have hd : decide ((l.length : Int) < (l.length : Int)) = false := decide_eq_false (by omega)
      obtain rfl : R = decide (l.length ≤ 20) := by rw [← HV.out]; exact sec_ok HA.out
      go_wp2
      go_ret
      exact ⟨congrArg (fun b => Ending.returned (Value.bool b)) (decide_eq_decide.2 (by omega)), HB.out⟩
    | succ k1 =>
      have hil : i < l.length := by omega
      have hd : decide ((i : Int) < (l.length : Int)) = true := decide_eq_true (by omega)
      obtain ⟨ad, e1, hx0, hx1⟩ := at_sec HR.out i hil
      have hp : Aside0 (0 < i → wr.cell? (ad.add ((i - 1) * 2)) = some (.int .i64 (sAt l (i - 1)).1)) := ⟨fun h0 => by
        obtain ⟨ad', e2, hy0, _⟩ := at_sec HR.out (i - 1) (by omega)
        rw [e1] at e2
        cases e2
        rw [sAt_eq l (i - 1) (by omega)]
        exact (HB.out.cell (World.block_lt_of_cell? w _ hy0)).trans hy0⟩
      subst e1
      replace hx0 := (HB.out.cell (World.block_lt_of_cell? w _ hx0)).trans hx0
      replace hx1 := (HB.out.cell (World.block_lt_of_cell? w _ hx1)).trans hx1
      have HN : Aside0 (¬ (0 ≤ l[i].1 ∧ l[i].1 ≤ 20) ∨ 1000 < l[i].2.size ∨ (0 < i ∧ l[i].1 ≤ (sAt l (i - 1)).1) → R = false) := ⟨fun h => by rw [← HV.out]; exact sec_bad i hil (okAt_bad hil h)⟩
      have HY : Aside0 (0 ≤ l[i].1 ∧ l[i].1 ≤ 20 → l[i].2.size ≤ 1000 → (0 < i → (sAt l (i - 1)).1 < l[i].1) → ∀ j, j < i + 1 → okAt l j = true) := ⟨fun a b c j hj => by
        by_cases e : j = i
        · subst e; exact okAt_ok hil a b c
        · exact HA.out j (by omega)⟩
      clear HA
      generalize (sAt l (i - 1)).1 = pv at *
      generalize l[i] = x at *
      obtain ⟨id, bd⟩ := x
      simp only at hx0 hx1 HN HY
      have q1 : (0 : Int) ≤ (i : Int) := by omega
      have q2 : (i : Int) < (l.length : Int) := by omega
      have ew : IntKind.i64.wrap ((i : Int) + 1) = (i : Int) + 1 := by rw [IntKind.wrap_i64]; have := HL.out; omega
      have ci := fun W => in_n id 0 20 W
      by_cases g1 : 0 ≤ id ∧ id ≤ 20
      rotate_left
      · rw [decide_eq_false g1] at ci
        obtain rfl : R = false := HN.out (.inl g1)
        go_wp2; go_quiet ((go_at_call 73; exact Calls.quiet_of (ci _))); go_wp2
        go_ret
        exact ⟨rfl, below_step HB.out (by with_reducible repeat first | exact Below.refl _ _ | refine below_alloc ?_ _ | refine below_drew1 ?_ | refine pw_below_drewN ?_ _)⟩
      rw [decide_eq_true g1] at ci
      by_cases g2 : bd.size ≤ 1000
      rotate_left
      · have d2 : decide ((1000 : Int) < (bd.size : Int)) = true := decide_eq_true (by omega)
        have d2' : decide (1000 < bd.size) = true := decide_eq_true (by omega)
        obtain rfl : R = false := HN.out (.inr (.inl (by omega)))
        go_wp2; go_quiet ((go_at_call 73; exact Calls.quiet_of (ci _))); go_wp2
        go_ret
        exact ⟨rfl, below_step HB.out (by with_reducible repeat first | exact Below.refl _ _ | refine below_alloc ?_ _ | refine below_drew1 ?_ | refine pw_below_drewN ?_ _)⟩
      have d2 : decide ((1000 : Int) < (bd.size : Int)) = false := decide_eq_false (by omega)
      have d2' : decide (1000 < bd.size) = false := decide_eq_false (by omega)
      by_cases g3 : i = 0
      · have d3 : decide ((0 : Int) < (i : Int)) = false := decide_eq_false (by omega)
        have d3' : decide (0 < i) = false := decide_eq_false (by omega)
        have HY2 := Aside0.mk (HY.out g1 g2 (fun h => absurd h (by omega)))
        clear HN HY hp g1 g2 g3
        go_wp2; go_quiet ((go_at_call 73; exact Calls.quiet_of (ci _))); go_wp2
        go_roundg k1
        case measure => omega
        case rel => exact ⟨i + 1, by omega, by rw [Int.natCast_add]; rfl, HY2, ⟨below_step HB.out (by with_reducible repeat first | exact Below.refl _ _ | refine below_alloc ?_ _ | refine below_drew1 ?_ | refine pw_below_drewN ?_ _)⟩⟩
      have d3 : decide ((0 : Int) < (i : Int)) = true := decide_eq_true (by omega)
      have d3' : decide (0 < i) = true := decide_eq_true (by omega)
      obtain ⟨pi, hpi⟩ : ∃ pi : Int, pi = (i : Int) - 1 := ⟨_, rfl⟩
      have hy : wr.cell? (ad.add (pi.toNat * 2)) = some (.int .i64 pv) := by have h := hp.out (by omega); rwa [show i - 1 = pi.toNat by omega] at h
      have ep : IntKind.i64.wrap ((i : Int) - 1) = pi := by rw [IntKind.wrap_i64]; have := HL.out; omega
      have p1 : 0 ≤ pi := by omega
      have p2 : pi < (l.length : Int) := by omega
      have ly := World.block_lt_of_cell? wr _ hy
      clear hpi
      by_cases g4 : id ≤ pv
      · have d4 : decide (id ≤ pv) = true := decide_eq_true g4
        obtain rfl : R = false := HN.out (.inr (.inr ⟨Nat.pos_of_ne_zero g3, g4⟩))
        clear HN HY hp g1 g2
        go_wp2; go_quiet ((go_at_call 73; exact Calls.quiet_of (ci _))); go_wp2
        go_ret
        exact ⟨rfl, below_step HB.out (by with_reducible repeat first | exact Below.refl _ _ | refine below_alloc ?_ _ | refine below_drew1 ?_ | refine pw_below_drewN ?_ _)⟩
      have d4 : decide (id ≤ pv) = false := decide_eq_false g4
      have HY2 := Aside0.mk (HY.out g1 g2 (fun _ => Int.lt_of_not_ge g4))
      clear HN HY hp g1 g2
      go_wp2; go_quiet ((go_at_call 73; exact Calls.quiet_of (ci _))); go_wp2
      go_roundg k1
      case measure => omega
      case rel => exact ⟨i + 1, by omega, by rw [Int.natCast_add]; rfl, HY2, ⟨below_step HB.out (by with_reducible repeat first | exact Below.refl _ _ | refine below_alloc ?_ _ | refine below_drew1 ?_ | refine pw_below_drewN ?_ _)⟩⟩
set_option maxRecDepth 100000 in
set_option maxHeartbeats 8000000 in
theorem good_i (A : Option Addr) (c : Nat) (l : List (Int × ByteArray)) (w : World) (hr : Kd.C kS w A l.length l) (hc : l.length ≤ c) (hl : l.length ≤ 1048576) : Calls Try.prog 87 #[.slice A l.length c] w fun e w' => e = .returned (.bool (goodS l)) ∧ Below w.heap.size w w' := by
  have HR := Aside0.mk hr
  have HL := Aside0.mk hl
  generalize hV : goodS l = R
  have HV := Aside0.mk hV
  clear hr hc hl hV
  by_cases z : l.length ≤ 20
  rotate_left
  · have d1 : decide ((20 : Int) < (l.length : Int)) = true := decide_eq_true (by omega)
    have d2 : decide (20 < l.length) = true := decide_eq_true (by omega)
    obtain rfl : R = false := by rw [← HV.out]; unfold goodS; rw [decide_eq_false z, Bool.and_false]
    go_enter Try.func87, Try.ntmps87
    go_wp2
    go_ret
    exact ⟨rfl, by with_reducible repeat first | exact Below.refl _ _ | refine below_alloc ?_ _ | refine below_drew1 ?_ | refine pw_below_drewN ?_ _⟩
  have d1 : decide ((20 : Int) < (l.length : Int)) = false := decide_eq_false (by omega)
  have d2 : decide (20 < l.length) = false := decide_eq_false (by omega)
  have HZ := Aside0.mk z
  clear z
  go_enter Try.func87, Try.ntmps87
  go_wp2
  clear d1 d2
  go_loopg [10] l.length (fun kq v w' => ∃ i : Nat, i + kq = l.length ∧ v = .int .i64 i ∧ Aside0 (∀ j, j < i → okAt l j = true) ∧ Aside0 (Below w.heap.size w w'))
  case atStart => exact ⟨0, by omega, rfl, ⟨fun j h => absurd h (Nat.not_lt_zero _)⟩, ⟨by with_reducible repeat first | exact Below.refl _ _ | refine below_alloc ?_ _ | refine below_drew1 ?_ | refine pw_below_drewN ?_ _⟩⟩
  case round =>
    obtain ⟨i, hi, rfl, HA, HB⟩ := hrel
    cases gk with
    | zero =>
      obtain rfl : i = l.length := by omega
      have hd : decide ((l.length : Int) < (l.length : Int)) = false := decide_eq_false (by omega)
      obtain rfl : R = decide (l.length ≤ 20) := by rw [← HV.out]; exact sec_ok HA.out
      go_wp2
      go_ret
      exact ⟨by rw [decide_eq_true HZ.out]; rfl, HB.out⟩
    | succ k1 =>
      have hil : i < l.length := by omega
      have hd : decide ((i : Int) < (l.length : Int)) = true := decide_eq_true (by omega)
      obtain ⟨ad, e1, hx0, hx1⟩ := at_sec HR.out i hil
      have hp : Aside0 (0 < i → wr.cell? (ad.add ((i - 1) * 2)) = some (.int .i64 (sAt l (i - 1)).1)) := ⟨fun h0 => by
        obtain ⟨ad', e2, hy0, _⟩ := at_sec HR.out (i - 1) (by omega)
        rw [e1] at e2
        cases e2
        rw [sAt_eq l (i - 1) (by omega)]
        exact (HB.out.cell (World.block_lt_of_cell? w _ hy0)).trans hy0⟩
      subst e1
      replace hx0 := (HB.out.cell (World.block_lt_of_cell? w _ hx0)).trans hx0
      replace hx1 := (HB.out.cell (World.block_lt_of_cell? w _ hx1)).trans hx1
      have HN : Aside0 (¬ (0 ≤ l[i].1 ∧ l[i].1 ≤ 20) ∨ 1000 < l[i].2.size ∨ (0 < i ∧ l[i].1 ≤ (sAt l (i - 1)).1) → R = false) := ⟨fun h => by rw [← HV.out]; exact sec_bad i hil (okAt_bad hil h)⟩
      have HY : Aside0 (0 ≤ l[i].1 ∧ l[i].1 ≤ 20 → l[i].2.size ≤ 1000 → (0 < i → (sAt l (i - 1)).1 < l[i].1) → ∀ j, j < i + 1 → okAt l j = true) := ⟨fun a b c j hj => by
        by_cases e : j = i
        · subst e; exact okAt_ok hil a b c
        · exact HA.out j (by omega)⟩
      clear HA
      generalize (sAt l (i - 1)).1 = pv at *
      generalize l[i] = x at *
      obtain ⟨id, bd⟩ := x
      simp only at hx0 hx1 HN HY
      have q1 : (0 : Int) ≤ (i : Int) := by omega
      have q2 : (i : Int) < (l.length : Int) := by omega
      have ew : IntKind.i64.wrap ((i : Int) + 1) = (i : Int) + 1 := by rw [IntKind.wrap_i64]; have := HL.out; omega
      by_cases g0 : 0 ≤ id
      rotate_left
      · have d0 : decide (id < 0) = true := decide_eq_true (by omega)
        obtain rfl : R = false := HN.out (.inl (by omega))
        go_wp2; go_quiet (fail); go_wp2
        go_ret
        exact ⟨rfl, below_step HB.out (by with_reducible repeat first | exact Below.refl _ _ | refine below_alloc ?_ _ | refine below_drew1 ?_ | refine pw_below_drewN ?_ _)⟩
      have d0 : decide (id < 0) = false := decide_eq_false (by omega)
      by_cases g1' : id ≤ 20
      rotate_left
      · have d1 : decide (20 < id) = true := decide_eq_true (by omega)
        obtain rfl : R = false := HN.out (.inl (by omega))
        go_wp2; go_quiet (fail); go_wp2
        go_ret
        exact ⟨rfl, below_step HB.out (by with_reducible repeat first | exact Below.refl _ _ | refine below_alloc ?_ _ | refine below_drew1 ?_ | refine pw_below_drewN ?_ _)⟩
      have d1 : decide (20 < id) = false := decide_eq_false (by omega)
      have g1 := And.intro g0 g1'
      by_cases g2 : bd.size ≤ 1000
      rotate_left
      · have d2 : decide ((1000 : Int) < (bd.size : Int)) = true := decide_eq_true (by omega)
        have d2' : decide (1000 < bd.size) = true := decide_eq_true (by omega)
        obtain rfl : R = false := HN.out (.inr (.inl (by omega)))
        go_wp2; go_quiet (fail); go_wp2
        go_ret
        exact ⟨rfl, below_step HB.out (by with_reducible repeat first | exact Below.refl _ _ | refine below_alloc ?_ _ | refine below_drew1 ?_ | refine pw_below_drewN ?_ _)⟩
      have d2 : decide ((1000 : Int) < (bd.size : Int)) = false := decide_eq_false (by omega)
      have d2' : decide (1000 < bd.size) = false := decide_eq_false (by omega)
      by_cases g3 : i = 0
      · have d3 : decide ((0 : Int) < (i : Int)) = false := decide_eq_false (by omega)
        have d3' : decide (0 < i) = false := decide_eq_false (by omega)
        have HY2 := Aside0.mk (HY.out g1 g2 (fun h => absurd h (by omega)))
        clear HN HY hp g1 g2 g3
        go_wp2; go_quiet (fail); go_wp2
        go_roundg k1
        case measure => omega
        case rel => exact ⟨i + 1, by omega, by rw [Int.natCast_add]; rfl, HY2, ⟨below_step HB.out (by with_reducible repeat first | exact Below.refl _ _ | refine below_alloc ?_ _ | refine below_drew1 ?_ | refine pw_below_drewN ?_ _)⟩⟩
      have d3 : decide ((0 : Int) < (i : Int)) = true := decide_eq_true (by omega)
      have d3' : decide (0 < i) = true := decide_eq_true (by omega)
      obtain ⟨pi, hpi⟩ : ∃ pi : Int, pi = (i : Int) - 1 := ⟨_, rfl⟩
      have hy : wr.cell? (ad.add (pi.toNat * 2)) = some (.int .i64 pv) := by have h := hp.out (by omega); rwa [show i - 1 = pi.toNat by omega] at h
      have ep : IntKind.i64.wrap ((i : Int) - 1) = pi := by rw [IntKind.wrap_i64]; have := HL.out; omega
      have p1 : 0 ≤ pi := by omega
      have p2 : pi < (l.length : Int) := by omega
      have ly := World.block_lt_of_cell? wr _ hy
      clear hpi
      by_cases g4 : id ≤ pv
      · have d4 : decide (id ≤ pv) = true := decide_eq_true g4
        obtain rfl : R = false := HN.out (.inr (.inr ⟨Nat.pos_of_ne_zero g3, g4⟩))
        clear HN HY hp g1 g2
        go_wp2; go_quiet (fail); go_wp2
        go_ret
        exact ⟨rfl, below_step HB.out (by with_reducible repeat first | exact Below.refl _ _ | refine below_alloc ?_ _ | refine below_drew1 ?_ | refine pw_below_drewN ?_ _)⟩
      have d4 : decide (id ≤ pv) = false := decide_eq_false g4
      have HY2 := Aside0.mk (HY.out g1 g2 (fun _ => Int.lt_of_not_ge g4))
      clear HN HY hp g1 g2
      go_wp2; go_quiet (fail); go_wp2
      go_roundg k1
      case measure => omega
      case rel => exact ⟨i + 1, by omega, by rw [Int.natCast_add]; rfl, HY2, ⟨below_step HB.out (by with_reducible repeat first | exact Below.refl _ _ | refine below_alloc ?_ _ | refine below_drew1 ?_ | refine pw_below_drewN ?_ _)⟩⟩
/-- A section in bytes. -/
def secS (x : Int × ByteArray) : ByteArray := strOfNums [x.1] ++ ulebS (x.2.size : Int) ++ x.2
def allS (l : List (Int × ByteArray)) : ByteArray := l.foldl (fun s x => s ++ secS x) ⟨#[]⟩
theorem allS_snoc (l : List (Int × ByteArray)) (i : Nat) (h : i < l.length) : allS (l.take (i + 1)) = allS (l.take i) ++ secS l[i] := by
  unfold allS
  rw [List.take_succ_eq_append_getElem h, List.foldl_append]
  rfl
theorem secS_size {x : Int × ByteArray} (h : x.2.size ≤ 1000) : (secS x).size ≤ 1011 := by
  unfold secS
  have := (ulebS_told (x.2.size : Int) (by omega) (by omega)).1
  rw [ByteArray.size_append, ByteArray.size_append, Pl.strOfNums_size, List.length_singleton]
  omega
theorem lit1_kept (x : Int) (X W : World) (hB : Below (X.alloc (.cells #[.int .u8 x] 5)).heap.size (X.alloc (.cells #[.int .u8 x] 5)) W) : (convert 111 9 (.slice (some ⟨X.heap.size, 0, none⟩) 1 1)).run Try.prog W = .ok (.string (strOfNums [x])) W := by
  refine run_convert_bytes_arg W 111 5 Try.underlying111 Try.underlying5 X.heap.size 0 1 1 [x] rfl (fun i hi => ?_) 9 Try.underlying9
  obtain rfl : i = 0 := by omega
  have h1 := (bcell hB).1 X.heap.size 0 (by simp)
  refine h1.trans ?_
  go_simp
theorem lit1_drew (x : Int) (X : World) : (convert 111 9 (.slice (some ⟨X.heap.size, 0, none⟩) 1 1)).run Try.prog (X.alloc (.cells #[.int .u8 x] 5)).drew = .ok (.string (strOfNums [x])) (X.alloc (.cells #[.int .u8 x] 5)).drew :=
  own_string (P := Try.prog) Try.underlying111 Try.underlying5 Try.underlying9 (own_drew (Bs.lit (w0 := X) (Below.refl _ _) [x] (by simp)).own)
theorem lit1_drew1 (x : Int) (X : World) (o : Obj) : (convert 111 9 (.slice (some ⟨X.heap.size + 1, 0, none⟩) 1 1)).run Try.prog ((X.alloc o).alloc (.cells #[.int .u8 x] 5)).drew = .ok (.string (strOfNums [x])) ((X.alloc o).alloc (.cells #[.int .u8 x] 5)).drew := by
  rw [show X.heap.size + 1 = (X.alloc o).heap.size by simp]
  exact lit1_drew x (X.alloc o)
theorem lit1_kept1 (x : Int) (X W : World) (o : Obj) (hB : Below ((X.alloc o).alloc (.cells #[.int .u8 x] 5)).heap.size ((X.alloc o).alloc (.cells #[.int .u8 x] 5)) W) : (convert 111 9 (.slice (some ⟨X.heap.size + 1, 0, none⟩) 1 1)).run Try.prog W = .ok (.string (strOfNums [x])) W := by
  rw [show X.heap.size + 1 = (X.alloc o).heap.size by simp]
  exact lit1_kept x (X.alloc o) W hB
/-- What SectionsBytes tells. -/
def secM (l : List (Int × ByteArray)) : ByteArray × Bool := if goodS l = true then (if 4000 < (allS l).size then (⟨#[]⟩, false) else (allS l, true)) else (⟨#[]⟩, false)
end Go.Proofs.Ytfhnffondamhdaa.OwnSec
namespace Go.Proofs.Ytfhnffondamhdaa.OwnBld
open Go Go.RowKit Go.Proofs.YtfhnffondamhdaaW.PrintWords Go.Proofs.YtfhnffondamhdaaW.PrintLast Go.Proofs.YtfhnffondamhdaaW.PrintMore Go.Proofs.Ytfhnffondamhdaa.OwnBs Go.Proofs.Ytfhnffondamhdaa.OwnKp
set_option linter.unusedVariables false
set_option linter.unusedSimpArgs false
/-- A builder that this call has made, of so many bytes. -/
abbrev At (B b : Nat) (p : Value) (bs : List Value) (w : World) : Prop := Lib.BuilderAt 128 5 B b p bs w
theorem info_bld : (Try.prog.info? 128).map (·.size) = some 2 := by kernel_rfl
theorem lies_bld : liesAt Try.prog Try.prog.depth 128 (2 / Try.prog.cellsOf 128) 0 128 1 = true := by kernel_rfl
set_option maxRecDepth 100000 in
set_option maxHeartbeats 2000000 in
theorem check_used (b : Nat) (w : World) (h0 : w.cell? ⟨b, 0, none⟩ = some (.pointer (some ⟨b, 0, none⟩))) : Calls Try.prog 111 #[.pointer (some ⟨b, 0, none⟩)] w fun e w' => e = .returned (.tuple #[]) ∧ w' = w := by
  obtain ⟨j, hj, _⟩ := Option.map_eq_some_iff.1 info_bld
  go_enter Try.func111, Try.ntmps111
  go_wp2
  rw [Lib.run_neq_ptr_same w _ Try.underlying126 hj]
  go_wp2
  go_end0
  exact ⟨rfl, rfl⟩
set_option maxRecDepth 100000 in
set_option maxHeartbeats 2000000 in
theorem check_fresh (b : Nat) (w : World) (h0 : w.cell? ⟨b, 0, none⟩ = some (.pointer none)) (hsh : w.shape? b = some (128, 2)) (hfz : w.frozen? ⟨b, 0, none⟩ = false) : Calls Try.prog 111 #[.pointer (some ⟨b, 0, none⟩)] w fun e w' => e = .returned (.tuple #[]) ∧ w' = w.setCell ⟨b, 0, none⟩ (.pointer (some ⟨b, 0, none⟩)) := by
  obtain ⟨j, hj, hjs⟩ := Option.map_eq_some_iff.1 info_bld
  go_enter Try.func111, Try.ntmps111
  go_wp2
  rw [Lib.run_to_unsafe w ⟨b, 0, none⟩ Try.underlying126 Try.underlying159 hj (by rw [hjs]; decide) hsh (Nat.zero_lt_succ 1)]
  simp only [Result.andThen]
  rw [Oper.upon_value]
  go_wp2
  rw [run_callFunc_extern Try.func120 (by kernel_rfl) (by kernel_rfl) (by kernel_rfl) (e := Extern.AbiNoEscape.same) (by kernel_rfl)]
  rw [Lib.run_noEscape]
  simp only [Result.andThen]
  rw [Oper.upon_value]
  go_wp2
  rw [Lib.run_from_unsafe w ⟨b, 0, none⟩ Try.underlying159 Try.underlying126 hj hsh lies_bld]
  simp only [Result.andThen]
  rw [Oper.upon_value]
  go_wp2
  go_end0
  exact ⟨rfl, rfl⟩
theorem check (B b : Nat) (bs : List Value) (w : World) (h : Lib.IsBuilder 128 5 B b bs w) : Calls Try.prog 111 #[.pointer (some ⟨b, 0, none⟩)] w fun e w' => e = .returned (.tuple #[]) ∧ (At B b (.pointer (some ⟨b, 0, none⟩)) bs w' ∧ Below B w w' ∧ ∀ k, k ≠ b → w'.heap[k]? = w.heap[k]?) := by
  rcases h with h | h
  · exact (check_fresh b w h.cell0 h.shape h.frozen0).mono fun e w' k => ⟨k.1, by rw [k.2]; exact h.used _, by rw [k.2]; exact (Below.refl B w).setCell (p := ⟨b, 0, none⟩) h.1 _, fun j hj => by rw [k.2]; exact Below.heap_setCell _ _ _ _ hj⟩
  · exact (check_used b w h.cell0).mono fun e w' k => ⟨k.1, by rw [k.2]; exact h, by rw [k.2]; exact Below.refl B _, fun j hj => by rw [k.2]⟩
set_option maxRecDepth 100000 in
set_option maxHeartbeats 2000000 in
theorem writeByte (B b : Nat) (bs : List Value) (c : Int) (w : World) (h : Lib.IsBuilder 128 5 B b bs w) (hlen : bs.length ≤ 1000000) (hBw : B ≤ w.heap.size) : Calls Try.prog 88 #[.pointer (some ⟨b, 0, none⟩), .int .u8 c] w fun e w' => e = .returned .nilIface ∧ (At B b (.pointer (some ⟨b, 0, none⟩)) (bs ++ [.int .u8 c]) w' ∧ Below B w w' ∧ ∀ k o T fz, w.heap[k]? = some (.cells o T fz) → T ≠ 5 → k ≠ b → w'.heap[k]? = some (.cells o T fz)) := by
  obtain ⟨i0, hi, hzz⟩ := Option.map_eq_some_iff.1 info_u8
  simp only [Prod.mk.injEq] at hzz
  obtain ⟨hz0, hz1, hz2⟩ := hzz
  have cc := fun w h => check B b bs w h
  go_enter Try.func88, Try.ntmps88
  go_wp2_with (go_at_call 111; refine (cc _ h).mono ?_)
  rintro e w1 ⟨rfl, ⟨hB, v, hbk, hown, hne⟩, hb1, hk1⟩
  have c0 : w1.cell? ⟨b, 0, none⟩ = some (.pointer (some ⟨b, 0, none⟩)) := by rw [Lib.cell_of_heap hbk]; rfl
  have c1 : w1.cell? ⟨b, 1, none⟩ = some v := by rw [Lib.cell_of_heap hbk]; rfl
  go_wp2_with (at_builtin; refine wpList_append_own _ rfl _ _ 111 rfl B 5 i0 (.int .u8 0) 1 1 Try.underlying111 hi hz0 hz1 hz2 rfl (by decide) _ _ _ rfl (hown.alloc _) ⟨w1.heap.size, 0, none⟩ 1 1 [.int .u8 c] rfl rfl ?c1 ?c2 ?c3 ?c4 ?c5 ?_)
  case c1 =>
    intro j u hj
    match j, hj with
    | 0, hj => simp at hj; subst hj; simp [Addr.add]
  case c2 => intro u hu; simp at hu; subst hu; rfl
  case c3 => unfold maxLen; omega
  case c4 => omega
  case c5 => have := hb1.size; simp; omega
  intro v' w2 hown' hgrow _
  have hlt : b < w1.heap.size := blk_lt hbk
  have hb2 : w2.heap[b]? = some (.cells #[.pointer (some ⟨b, 0, none⟩), v] 128 (0, 0)) := by
    rw [hgrow.block b (by simp; omega) (fun e => hne e.symm), Lib.alloc_old w1 _ b hlt]
    exact hbk
  have d0 : w2.cell? ⟨b, 0, none⟩ = some (.pointer (some ⟨b, 0, none⟩)) := by rw [Lib.cell_of_heap hb2]; rfl
  have d1 : w2.cell? ⟨b, 1, none⟩ = some v := by rw [Lib.cell_of_heap hb2]; rfl
  have f1 : w2.frozen? ⟨b, 1, none⟩ = false := Lib.frozen_of_heap hb2 1
  obtain ⟨g, cap, rfl⟩ : ∃ g cap, v' = .slice (some ⟨g, 0, none⟩) (bs.length + 1) cap := by
    rcases hown'.2 with ⟨_, h0⟩ | ⟨g, cap, cur, hv, _⟩
    · omega
    · exact ⟨g, cap, hv⟩
  go_wp2
  go_ret
  refine ⟨rfl, Lib.BuilderAt.put (T := 128) (e := 5) hB hb2 (bs' := bs ++ [.int .u8 c]) (by simpa using hown') (by decide), ((hb1.alloc (by have := hb1.size; omega) _).grown hgrow (by have := hb1.size; simp; omega) (fun k hk => (hown.lt k hk).1)).setCell (p := ⟨b, 1, none⟩) hB _, fun k o T fz hk hT hkb => ?_⟩
  have e1 := (hk1 k hkb).trans hk
  have e2 := Lib.ownBlock_ne hown e1 hT
  have e3 : k < w1.heap.size := blk_lt e1
  rw [Below.heap_setCell _ _ _ _ hkb, hgrow.block k (by simp; omega) (fun e => e2 e.symm), Lib.alloc_old w1 _ k e3]
  exact e1
set_option maxRecDepth 100000 in
set_option maxHeartbeats 2000000 in
theorem writeString (B b : Nat) (bs : List Value) (s : ByteArray) (w : World) (h : Lib.IsBuilder 128 5 B b bs w) (hlen : bs.length ≤ 1000000) (hs : s.size ≤ 1000000) (hBw : B ≤ w.heap.size) : Calls Try.prog 89 #[.pointer (some ⟨b, 0, none⟩), .string s] w fun e w' => e = .returned (.tuple #[.int .i64 s.size, .nilIface]) ∧ (At B b (.pointer (some ⟨b, 0, none⟩)) (bs ++ Lib.strCells s) w' ∧ Below B w w' ∧ ∀ k o T fz, w.heap[k]? = some (.cells o T fz) → T ≠ 5 → k ≠ b → w'.heap[k]? = some (.cells o T fz)) := by
  obtain ⟨i0, hi, hzz⟩ := Option.map_eq_some_iff.1 info_u8
  simp only [Prod.mk.injEq] at hzz
  obtain ⟨hz0, hz1, hz2⟩ := hzz
  have cc := fun w h => check B b bs w h
  go_enter Try.func89, Try.ntmps89
  go_wp2_with (go_at_call 111; refine (cc _ h).mono ?_)
  rintro e w1 ⟨rfl, ⟨hB, v, hbk, hown, hne⟩, hb1, hk1⟩
  have c0 : w1.cell? ⟨b, 0, none⟩ = some (.pointer (some ⟨b, 0, none⟩)) := by rw [Lib.cell_of_heap hbk]; rfl
  have c1 : w1.cell? ⟨b, 1, none⟩ = some v := by rw [Lib.cell_of_heap hbk]; rfl
  go_wp2_with (at_builtin; refine Lib.wpList_append_own_string _ rfl _ _ 111 9 rfl B 5 i0 Try.underlying111 Try.underlying9 hi hz0 hz1 hz2 _ _ _ rfl hown s rfl ?c3 ?c4 ?c5 ?_)
  case c3 => unfold maxLen; omega
  case c4 => omega
  case c5 => have := hb1.size; omega
  intro v' w2 hown' hgrow _
  have hlt : b < w1.heap.size := blk_lt hbk
  have hb2 : w2.heap[b]? = some (.cells #[.pointer (some ⟨b, 0, none⟩), v] 128 (0, 0)) := by
    rw [hgrow.block b hlt (fun e => hne e.symm)]
    exact hbk
  have d0 : w2.cell? ⟨b, 0, none⟩ = some (.pointer (some ⟨b, 0, none⟩)) := by rw [Lib.cell_of_heap hb2]; rfl
  have d1 : w2.cell? ⟨b, 1, none⟩ = some v := by rw [Lib.cell_of_heap hb2]; rfl
  have f1 : w2.frozen? ⟨b, 1, none⟩ = false := Lib.frozen_of_heap hb2 1
  obtain ⟨ao, n', cap, rfl⟩ : ∃ ao n' cap, v' = .slice ao n' cap := by
    rcases hown'.2 with ⟨hv, _⟩ | ⟨g, cap, cur, hv, _⟩
    · exact ⟨_, _, _, hv⟩
    · exact ⟨_, _, _, hv⟩
  go_wp2
  go_ret2
  refine ⟨rfl, Lib.BuilderAt.put (T := 128) (e := 5) hB hb2 (bs' := bs ++ Lib.strCells s) (by simpa [Lib.strCells_length] using hown') (by decide), (hb1.grown hgrow (by have := hb1.size; omega) (fun k hk => (hown.lt k hk).1)).setCell (p := ⟨b, 1, none⟩) hB _, fun k o T fz hk hT hkb => ?_⟩
  have e1 := (hk1 k hkb).trans hk
  have e2 := Lib.ownBlock_ne hown e1 hT
  have e3 : k < w1.heap.size := blk_lt e1
  rw [Below.heap_setCell _ _ _ _ hkb, hgrow.block k e3 (fun e => e2 e.symm)]
  exact e1
/-- A builder stays as it is where a call leaves all that stood. -/
theorem keeps {B b : Nat} {p : Value} {bs : List Value} {w w' : World} (h : At B b p bs w) (hb : Below w.heap.size w w') : At B b p bs w' := by
  obtain ⟨hB, v, hbk, hown, hne⟩ := h
  exact ⟨hB, v, (hb.block b (blk_lt hbk)).trans hbk, pw_own_below hown hb, hne⟩
abbrev Is (B b : Nat) (bs : List Value) (w : World) : Prop := Lib.IsBuilder 128 5 B b bs w
theorem isR {B b : Nat} {bs : List Value} {w : World} (h : At B b (.pointer (some ⟨b, 0, none⟩)) bs w) : Lib.IsBuilder 128 5 B b bs w := Or.inr h
theorem keepsI {B b : Nat} {bs : List Value} {w w' : World} (h : Is B b bs w) (hb : Below w.heap.size w w') : Is B b bs w' := by
  rcases h with h | h
  · exact .inl (keeps h hb)
  · exact .inr (keeps h hb)
theorem lenB (B b : Nat) (s : ByteArray) (w : World) (h : Is B b (Lib.strCells s) w) : Calls Try.prog 90 #[.pointer (some ⟨b, 0, none⟩)] w fun e w' => e = .returned (.int .i64 s.size) ∧ w' = w := by
  have := Try.Builder_Len B b _ w h
  rwa [Lib.strCells_length] at this
theorem textB (B b : Nat) (s : ByteArray) (w : World) (h : Is B b (Lib.strCells s) w) (hBw : B ≤ w.heap.size) : Calls Try.prog 91 #[.pointer (some ⟨b, 0, none⟩)] w fun e w' => e = .returned (.string s) ∧ Below B w w' := by
  have := Try.Builder_String_any B b s.data.toList w h hBw
  have e1 : (⟨s.data.toList.toArray⟩ : ByteArray) = s := by rw [Array.toArray_toList]
  rw [e1] at this
  exact this
theorem strCells_append (a b : ByteArray) : Lib.strCells (a ++ b) = Lib.strCells a ++ Lib.strCells b := by
  unfold Lib.strCells
  simp
theorem strCells_one (x : Int) (h0 : 0 ≤ x) (h1 : x < 256) : Lib.strCells (strOfNums [x]) = [.int .u8 x] := by
  unfold Lib.strCells strOfNums
  simp
  omega
theorem heap_new (w : World) (o : Obj) : (w.alloc o).heap[w.heap.size]? = some o := by simp only [World.alloc, Array.getElem?_push, if_true]
theorem fresh (B : Nat) (w : World) (hB : B ≤ w.heap.size) : Is B w.heap.size [] (w.alloc (.cells #[.pointer none, .slice none 0 0] 128)) :=
  .inl ⟨hB, .slice none 0 0, heap_new w _, own_nil _ _ _ _, fun h => by cases h⟩
end Go.Proofs.Ytfhnffondamhdaa.OwnBld
namespace Go.Proofs.Ytfhnffondamhdaa.OwnSecI
open Go Go.RowKit Go.Proofs.YtfhnffondamhdaaW.PrintWords Go.Proofs.YtfhnffondamhdaaW.PrintLast Go.Proofs.YtfhnffondamhdaaW.PrintMore Go.Proofs.Ytfhnffondamhdaa.OwnBs Go.Proofs.Ytfhnffondamhdaa.OwnKp Go.Proofs.Ytfhnffondamhdaa.OwnCode Go.Proofs.Ytfhnffondamhdaa.OwnSec Go.Proofs.Ytfhnffondamhdaa.OwnBld
set_option linter.unusedVariables false
set_option linter.unusedSimpArgs false
set_option maxRecDepth 100000 in
set_option maxHeartbeats 40000000 in
theorem impl_sec (A : Option Addr) (c : Nat) (l : List (Int × ByteArray)) (w : World) (hr : Kd.C kS w A l.length l) (hc : l.length ≤ c) (hl : l.length ≤ 1048576) : Calls Try.prog 53 #[.slice A l.length c] w fun e w' => e = .returned (.tuple #[.string (secM l).1, .bool (secM l).2]) ∧ Below w.heap.size w w' := by
  have HR := Aside0.mk hr
  have cg := fun w hr => good_i A c l w hr hc hl
  clear hr
  unfold secM
  by_cases g : goodS l = true
  · rw [if_pos g]
    have HG := Aside0.mk g
    rw [g] at cg
    clear g
    generalize hS : allS l = S at *
    have HS0 := Aside0.mk hS
    clear hS
    obtain ⟨R1, R2, hR⟩ : ∃ R1 R2, (if 4000 < S.size then ((⟨#[]⟩ : ByteArray), false) else (S, true)) = (R1, R2) := ⟨_, _, rfl⟩
    rw [hR]
    have HRR := Aside0.mk hR
    clear hR
    go_enter Try.func53, Try.ntmps53
    go_wp2_with (go_at_call 87; (with_reducible refine (cg _ HR.out).mono ?_); rintro e w1 ⟨rfl, hb1⟩)
    clear cg
    have HB1 := Aside0.mk hb1
    have hFr := fresh w.heap.size w1 hb1.size
    have HW1 : Aside0 (w.heap.size ≤ w1.heap.size) := ⟨hb1.size⟩
    clear hb1
    go_loopg [13] l.length (fun kq v13 w' => ∃ i : Nat, i + kq = l.length ∧ v13 = .int .i64 i ∧ Aside0 ((allS (l.take i)).size ≤ 1011 * i) ∧ Aside0 (Is w.heap.size w1.heap.size (Lib.strCells (allS (l.take i))) w' ∧ Below w.heap.size w w'))
    case atStart => exact ⟨0, by omega, rfl, ⟨Nat.le_refl _⟩, ⟨hFr, below_alloc HB1.out _⟩⟩
    case round =>
      clear hFr
      obtain ⟨i, hi, rfl, HZ, HIB⟩ := hrel
      cases gk with
      | zero =>
        obtain rfl : i = l.length := by omega
        rw [List.take_length, HS0.out] at HIB
        have hd : decide ((l.length : Int) < (l.length : Int)) = false := decide_eq_false (by omega)
        clear HZ
        have hR := HRR.out
        have cl := fun W h => lenB w.heap.size w1.heap.size S W h
        have ct := fun W h h2 => textB w.heap.size w1.heap.size S W h h2
        by_cases z : 4000 < S.size
        · rw [if_pos z, Prod.mk.injEq] at hR
          obtain ⟨rfl, rfl⟩ := hR
          have h1 : decide ((4000 : Int) < (S.size : Int)) = true := decide_eq_true (by omega)
          have h2 : decide (4000 < S.size) = true := decide_eq_true (by omega)
          go_wp2_with (go_at_call 90; (with_reducible refine (cl _ (keepsI HIB.out.1 (by repeat (first | (with_reducible exact Below.refl _ _) | (with_reducible refine below_alloc ?_ _) | (with_reducible refine below_drew1 ?_) | (with_reducible refine pw_below_drewN ?_ _))))).mono ?_); rintro e w2 ⟨rfl, rfl⟩)
          go_ret2
          exact ⟨rfl, by have HB := HIB.out.2; exact (by repeat (first | (with_reducible exact Below.refl _ _) | (with_reducible exact HB) | (with_reducible exact HB2) | (with_reducible refine below_alloc ?_ _) | (with_reducible refine below_drew1 ?_) | (with_reducible refine pw_below_drewN ?_ _)))⟩
        · rw [if_neg z, Prod.mk.injEq] at hR
          obtain ⟨e1, rfl⟩ := hR
          have HE := Aside0.mk e1
          clear e1
          have h1 : decide ((4000 : Int) < (S.size : Int)) = false := decide_eq_false (by omega)
          have h2 : decide (4000 < S.size) = false := decide_eq_false (by omega)
          go_wp2_with (first
            | (go_at_call 91; (with_reducible refine (ct _ (keepsI HIB.out.1 (by repeat (first | (with_reducible exact Below.refl _ _) | (with_reducible refine below_alloc ?_ _) | (with_reducible refine below_drew1 ?_) | (with_reducible refine pw_below_drewN ?_ _)))) (by have := HIB.out.2.size; first | exact this | omega | (simp; omega))).mono ?_); rintro e w3 ⟨rfl, hb3⟩)
            | (go_at_call 90; (with_reducible refine (cl _ (keepsI HIB.out.1 (by repeat (first | (with_reducible exact Below.refl _ _) | (with_reducible refine below_alloc ?_ _) | (with_reducible refine below_drew1 ?_) | (with_reducible refine pw_below_drewN ?_ _))))).mono ?_); rintro e w2 ⟨rfl, rfl⟩))
          go_ret2
          refine ⟨by rw [← HE.out]; rfl, ?_⟩
          have HB := HIB.out.2
          exact Below.trans (by repeat (first | (with_reducible exact Below.refl _ _) | (with_reducible exact HB) | (with_reducible exact HB2) | (with_reducible refine below_alloc ?_ _) | (with_reducible refine below_drew1 ?_) | (with_reducible refine pw_below_drewN ?_ _))) hb3
      | succ k1 =>
        have hil : i < l.length := by omega
        have hd : decide ((i : Int) < (l.length : Int)) = true := decide_eq_true (by omega)
        obtain ⟨g0, g1, g2⟩ := goodS_at HG.out i hil
        obtain ⟨ad, e, hx0, hx1⟩ := at_sec HR.out i hil
        subst e
        replace hx0 := (HIB.out.2.cell (World.block_lt_of_cell? w _ hx0)).trans hx0
        replace hx1 := (HIB.out.2.cell (World.block_lt_of_cell? w _ hx1)).trans hx1
        have HS := Aside0.mk (allS_snoc l i hil)
        have hz := HZ.out
        have h11 := secS_size g2
        have HZ2 : Aside0 ((allS (l.take i) ++ secS l[i]).size ≤ 1011 * (i + 1)) := ⟨by rw [ByteArray.size_append]; omega⟩
        have hl20 := goodS_len HG.out
        have cu := fun w => uleb_i (l[i].2.size : Int) (by omega) (by omega) w
        have y3 := (ulebS_told (l[i].2.size : Int) (by omega) (by omega)).1
        have HT : Aside0 (secS l[i] = strOfNums [l[i].1] ++ ulebS (l[i].2.size : Int) ++ l[i].2) := ⟨rfl⟩
        generalize allS (l.take i) = s at *
        generalize l[i].1 = id at *
        generalize l[i].2 = body at *
        generalize secS l[i] = sc at *
        have ew : IntKind.u64.wrap (body.size : Int) = body.size := by rw [IntKind.wrap_u64]; omega
        generalize ulebS (body.size : Int) = U at *
        have x1 : (9223372036854775807 < U.size + body.size) = False := eq_false (by omega)
        have ew2 : IntKind.u8.wrap id = id := by rw [IntKind.wrap_u8]; omega
        have eid : id % 256 = id := by omega
        have HLen : Aside0 ((Lib.strCells s).length ≤ 30000 ∧ (U ++ body).size ≤ 2000 ∧ (Lib.strCells s ++ [Value.int IntKind.u8 id]).length ≤ 30001) := ⟨by rw [List.length_append, Lib.strCells_length, ByteArray.size_append]; simp; omega⟩
        have HCat : Aside0 (Lib.strCells s ++ [Value.int IntKind.u8 id] ++ Lib.strCells (U ++ body) = Lib.strCells (s ++ sc)) := ⟨by rw [HT.out, show strOfNums [id] ++ U ++ body = strOfNums [id] ++ (U ++ body) from ByteArray.append_assoc, strCells_append s, strCells_append (strOfNums [id]), strCells_one id (by omega) (by omega), List.append_assoc]⟩
        clear y3 hz HZ h11
        have HB := HIB.out.2
        have HIs := Aside0.mk HIB.out.1
        clear HIB
        have hlt1 : Aside0 (w1.heap.size < wr.heap.size) := ⟨by rcases HIs.out with h | h <;> exact h.lt⟩
        have hxa : (wr.alloc (.cells #[.int .i64 id, .string body] 92)).heap[wr.heap.size]? = some (.cells #[.int .i64 id, .string body] 92 (0, 0)) := heap_new wr _
        have HXA := Aside0.mk hxa
        clear hxa
        go_wp2_with (go_at_call 88; (with_reducible refine (writeByte w.heap.size w1.heap.size _ id _ (keepsI HIs.out (by repeat (first | (with_reducible exact Below.refl _ _) | (with_reducible refine below_alloc ?_ _) | (with_reducible refine below_drew1 ?_) | (with_reducible refine pw_below_drewN ?_ _)))) (by have := HLen.out.1; omega) (Nat.le_trans HB.size (by simp))).mono ?_); rintro e w2 ⟨rfl, hA2, hb2, hK2⟩)
        have HX2 := hK2 wr.heap.size _ _ _ HXA.out (by decide) (by have := hlt1.out; omega)
        have HB2 : Below w.heap.size w w2 := Below.trans (below_alloc HB _) hb2
        have HA2 := Aside0.mk hA2
        clear hK2 hA2 hb2
        have hc20 : w2.cell? ⟨wr.heap.size, 0, none⟩ = some (.int .i64 id) := by rw [Lib.cell_of_heap HX2]; rfl
        have hc21 : w2.cell? ⟨wr.heap.size, 1, none⟩ = some (.string body) := by rw [Lib.cell_of_heap HX2]; rfl
        have hz2 : wr.heap.size < w2.heap.size := blk_lt HX2
        clear HX2
        go_wp2_with fail
        go_region_with (first
          | (go_at_call 89; (with_reducible refine (writeString w.heap.size w1.heap.size _ (U ++ body) _ (isR (keeps HA2.out (by repeat (first | (with_reducible exact Below.refl _ _) | (with_reducible refine below_alloc ?_ _) | (with_reducible refine below_drew1 ?_) | (with_reducible refine pw_below_drewN ?_ _) | (with_reducible refine below_step ?_ hb3))))) (by have := HLen.out.2.2; omega) (by have := HLen.out.2.1; omega) (Below.size (B := w.heap.size) (w := w) (by repeat (first | (with_reducible exact Below.refl _ _) | (with_reducible exact HB) | (with_reducible exact HB2) | (with_reducible refine below_alloc ?_ _) | (with_reducible refine below_drew1 ?_) | (with_reducible refine pw_below_drewN ?_ _) | (with_reducible refine below_step ?_ hb3))))).mono ?_); rintro e w4 ⟨rfl, hA4, hb4, hK4⟩; have HB4 : Below w.heap.size w w4 := Below.trans (by repeat (first | (with_reducible exact Below.refl _ _) | (with_reducible exact HB) | (with_reducible exact HB2) | (with_reducible refine below_alloc ?_ _) | (with_reducible refine below_drew1 ?_) | (with_reducible refine pw_below_drewN ?_ _) | (with_reducible refine below_step ?_ hb3))) hb4; have HA4 := Aside0.mk hA4; clear hA4 hK4)
          | (go_at_call 51; (with_reducible refine (cu _).mono ?_); rintro e w3 ⟨rfl, hb3⟩; have hbq3 : Below w2.heap.size w2 w3 := below_step (by repeat (first | (with_reducible exact Below.refl _ _) | (with_reducible refine below_alloc ?_ _) | (with_reducible refine below_drew1 ?_) | (with_reducible refine pw_below_drewN ?_ _))) hb3; have hc30 : w3.cell? ⟨wr.heap.size, 0, none⟩ = some (.int .i64 id) := (hbq3.cell hz2).trans hc20; have hc31 : w3.cell? ⟨wr.heap.size, 1, none⟩ = some (.string body) := (hbq3.cell hz2).trans hc21; have hz3 : wr.heap.size < w3.heap.size := (by have := hb3.size; first | omega | (simp at this; omega))))
        all_goals
          try simp only [Exit.then]
          first | (rename_i kk; refine kk _ _ ?_) | (rename_i kk _; refine kk _ _ ?_) | (rename_i kk _ _; refine kk _ _ ?_) | (rename_i kk _ _ _; refine kk _ _ ?_) | (rename_i kk _ _ _ _; refine kk _ _ ?_)
          go_wp2
          go_roundg k1
          case measure => omega
          case rel => exact ⟨i + 1, by omega, by rw [Int.natCast_add]; rfl, ⟨by rw [HS.out]; exact HZ2.out⟩, ⟨by rw [HS.out, ← HCat.out]; exact isR HA4.out, HB4⟩⟩
  · rw [if_neg g]
    rw [Bool.not_eq_true] at g
    rw [g] at cg
    go_enter Try.func53, Try.ntmps53
    go_wp2_with (go_at_call 87; (with_reducible refine (cg _ HR.out).mono ?_); rintro e w1 ⟨rfl, hb1⟩)
    go_ret2
    exact ⟨rfl, hb1⟩
end Go.Proofs.Ytfhnffondamhdaa.OwnSecI
namespace Go.Proofs.Ytfhnffondamhdaa.OwnMb
open Go Go.RowKit Go.Proofs.YtfhnffondamhdaaW.PrintWords Go.Proofs.YtfhnffondamhdaaW.PrintLast Go.Proofs.YtfhnffondamhdaaW.PrintMore Go.Proofs.Ytfhnffondamhdaa.OwnBs Go.Proofs.Ytfhnffondamhdaa.OwnKp Go.Proofs.Ytfhnffondamhdaa.OwnBytes Go.Proofs.Ytfhnffondamhdaa.OwnCode Go.Proofs.Ytfhnffondamhdaa.OwnSt Go.Proofs.Ytfhnffondamhdaa.OwnFn Go.Proofs.Ytfhnffondamhdaa.OwnTo Go.Proofs.Ytfhnffondamhdaa.OwnFs Go.Proofs.Ytfhnffondamhdaa.OwnMd Go.Proofs.Ytfhnffondamhdaa.OwnGs Go.Proofs.Ytfhnffondamhdaa.OwnBc Go.Proofs.Ytfhnffondamhdaa.OwnFb Go.Proofs.Ytfhnffondamhdaa.OwnFbC Go.Proofs.Ytfhnffondamhdaa.OwnSec
set_option linter.unusedVariables false
set_option linter.unusedSimpArgs false
/-- A func's bytes. -/
def fbR (f : Rec) : ByteArray × Bool := fbM f.1 f.2.1 f.2.2.1 f.2.2.2
/-- Funcs' bytes, as far as they have come. -/
def fsS (n : Nat) (F : List Rec) : ByteArray := F.foldl (fun s f => s ++ (fbR f).1) (ulebS n)
theorem fsS_snoc (n : Nat) (F : List Rec) (i : Nat) (h : i < F.length) : fsS n (F.take (i + 1)) = fsS n (F.take i) ++ (fbR F[i]).1 := by
  unfold fsS
  rw [List.take_succ_eq_append_getElem h, List.foldl_append]
  rfl
theorem fbR_size (f : Rec) : (fbR f).1.size ≤ 900 := by
  unfold fbR fbM
  split
  · split
    · exact Nat.zero_le _
    · rename_i h; simp only; omega
  · exact Nat.zero_le _
/-- A global's bytes. -/
def glB (g : Glo) : ByteArray := strOfNums [g.1 % 256, if g.2.1 = true then 1 else 0] ++ ulebS g.2.2
def gsS (n : Nat) (G : List Glo) : ByteArray := G.foldl (fun s g => s ++ glB g) (ulebS n)
theorem gsS_snoc (n : Nat) (G : List Glo) (i : Nat) (h : i < G.length) : gsS n (G.take (i + 1)) = gsS n (G.take i) ++ glB G[i] := by
  unfold gsS
  rw [List.take_succ_eq_append_getElem h, List.foldl_append]
  rfl
/-- A module's sections. -/
def scF (F : List Rec) : List (Int × ByteArray) := if 0 < F.length then [(1, fsS F.length F)] else []
def scM (mem : Bool) (pages most : Int) : List (Int × ByteArray) := if mem = true then [(5, ulebS pages ++ ulebS most)] else []
def scG (G : List Glo) : List (Int × ByteArray) := if 0 < G.length then [(6, gsS G.length G)] else []
def scT (start : Int) : List (Int × ByteArray) := if start = -1 then [] else [(8, ulebS start)]
/-- A good module's bytes. -/
def mbG (F : List Rec) (G : List Glo) (mem : Bool) (pages most start : Int) : ByteArray × Bool :=
  if F.all (fun f => (fbR f).2) = true then (if (secM (((scF F ++ scM mem pages most) ++ scG G) ++ scT start)).2 = true then (bytesM 1836085504 4 ++ (secM (((scF F ++ scM mem pages most) ++ scG G) ++ scT start)).1, true) else (⟨#[]⟩, false)) else (⟨#[]⟩, false)
def mbM (F : List Rec) (G : List Glo) (mem : Bool) (pages most start : Int) : ByteArray × Bool := if gsM F G mem pages most start = true then mbG F G mem pages most start else (⟨#[]⟩, false)
theorem fs_bad {F : List Rec} (i : Nat) (h : i < F.length) (hb : (fbR F[i]).2 = false) (G : List Glo) (mem : Bool) (pages most start : Int) : mbG F G mem pages most start = (⟨#[]⟩, false) := by
  unfold mbG
  rw [if_neg]
  intro e
  rw [List.all_eq_true] at e
  have := e _ (List.getElem_mem h)
  rw [hb] at this
  cases this
theorem fs_ok {F : List Rec} (h : ∀ i, (hi : i < F.length) → (fbR F[i]).2 = true) : F.all (fun f => (fbR f).2) = true := by
  rw [List.all_eq_true]
  intro x hx
  obtain ⟨i, hi, rfl⟩ := List.getElem_of_mem hx
  exact h i hi
theorem fsS_size (n : Nat) (hn : n ≤ 1048576) (F : List Rec) : ∀ i, i ≤ F.length → (fsS n (F.take i)).size ≤ 10 + 900 * i := by
  intro i
  induction i with
  | zero => intro _; rw [List.take_zero]; exact (ulebS_told n (by omega) (by omega)).1
  | succ i ih =>
    intro hi
    rw [fsS_snoc n F i (by omega), ByteArray.size_append]
    have := ih (by omega)
    have := fbR_size F[i]
    omega
theorem glB_size (g : Glo) (h0 : 0 ≤ g.2.2) (h1 : g.2.2 < 18446744073709551616) : (glB g).size ≤ 12 := by
  unfold glB
  rw [ByteArray.size_append, Pl.strOfNums_size]
  have := (ulebS_told g.2.2 h0 h1).1
  simp only [List.length_cons, List.length_nil]
  omega
theorem gsS_size (n : Nat) (hn : n ≤ 1048576) (G : List Glo) (hg : ∀ g ∈ G, 0 ≤ g.2.2 ∧ g.2.2 < 18446744073709551616) : ∀ i, i ≤ G.length → (gsS n (G.take i)).size ≤ 10 + 12 * i := by
  intro i
  induction i with
  | zero => intro _; rw [List.take_zero]; exact (ulebS_told n (by omega) (by omega)).1
  | succ i ih =>
    intro hi
    rw [gsS_snoc n G i (by omega), ByteArray.size_append]
    have := ih (by omega)
    have := glB_size G[i] (hg _ (List.getElem_mem _)).1 (hg _ (List.getElem_mem _)).2
    omega
end Go.Proofs.Ytfhnffondamhdaa.OwnMb
namespace Go.Proofs.Ytfhnffondamhdaa.OwnMbI
open Go Go.RowKit Go.Proofs.YtfhnffondamhdaaW.PrintWords Go.Proofs.YtfhnffondamhdaaW.PrintLast Go.Proofs.YtfhnffondamhdaaW.PrintMore Go.Proofs.Ytfhnffondamhdaa.OwnBs Go.Proofs.Ytfhnffondamhdaa.OwnKp Go.Proofs.Ytfhnffondamhdaa.OwnBytes Go.Proofs.Ytfhnffondamhdaa.OwnCode Go.Proofs.Ytfhnffondamhdaa.OwnSt Go.Proofs.Ytfhnffondamhdaa.OwnFn Go.Proofs.Ytfhnffondamhdaa.OwnTo Go.Proofs.Ytfhnffondamhdaa.OwnFs Go.Proofs.Ytfhnffondamhdaa.OwnMd Go.Proofs.Ytfhnffondamhdaa.OwnGs Go.Proofs.Ytfhnffondamhdaa.OwnBc Go.Proofs.Ytfhnffondamhdaa.OwnFb Go.Proofs.Ytfhnffondamhdaa.OwnFbC Go.Proofs.Ytfhnffondamhdaa.OwnSec Go.Proofs.Ytfhnffondamhdaa.OwnMb
set_option linter.unusedVariables false
set_option linter.unusedSimpArgs false
set_option maxRecDepth 100000 in
set_option maxHeartbeats 40000000 in
theorem fsb_i (A : Option Addr) (c : Nat) (F : List Rec) (w : World) (hr : FsR w A F) (hF : F.length ≤ 10) (hf : ∀ f ∈ F, lens f) (hw : ∀ f ∈ F, ∀ p ∈ f.2.2.2, -9223372036854775808 ≤ p.2 ∧ p.2 < 9223372036854775808) : Calls Try.prog 50 #[.slice A F.length c] w fun e w' => ((F.all (fun f => (fbR f).2) = true ∧ e = .returned (.tuple #[.string (fsS F.length F), .bool true])) ∨ ((∃ i, ∃ h : i < F.length, (fbR F[i]).2 = false) ∧ e = .returned (.tuple #[.string ⟨#[]⟩, .bool false]))) ∧ Below w.heap.size w w' := by
  have HR := Aside0.mk hr
  have HL := Aside0.mk hf
  have HW := Aside0.mk hw
  have HF := Aside0.mk hF
  have cu := fun W => uleb_i (F.length : Int) (by omega) (by omega) W
  have ew0 : IntKind.u64.wrap (F.length : Int) = F.length := by rw [IntKind.wrap_u64]; omega
  have H0 : Aside0 (ulebS (F.length : Int) = fsS F.length (F.take 0)) := ⟨by rw [List.take_zero]; rfl⟩
  rw [H0.out] at cu
  clear H0 hr hF hf hw
  go_enter Try.func50, Try.ntmps50
  go_wp2_with (first | (go_at_call 51; (with_reducible refine (cu _).mono ?_); rintro e w1 ⟨rfl, hb1⟩))
  have HB1 := Aside0.mk (show Below w.heap.size w w1 from below_step (by with_reducible repeat first | exact Below.refl _ _ | refine below_alloc ?_ _ | refine below_drew1 ?_ | refine pw_below_drewN ?_ _) hb1)
  clear hb1 cu ew0
  go_loopg [4, 15] F.length (fun kq v4 v15 w' => ∃ i : Nat, i + kq = F.length ∧ v15 = .int .i64 i ∧ v4 = .string (fsS F.length (F.take i)) ∧ Aside0 (∀ j, (h : j < F.length) → j < i → (fbR F[j]).2 = true) ∧ Aside0 (Below w.heap.size w w'))
  case atStart => exact ⟨0, by omega, rfl, rfl, ⟨fun j _ h => absurd h (Nat.not_lt_zero _)⟩, HB1⟩
  case round =>
    clear HB1
    obtain ⟨i, hi, rfl, rfl, HA, HB⟩ := hrel
    cases gk with
    | zero =>
      obtain rfl : i = F.length := by omega
      have hd : decide ((F.length : Int) < (F.length : Int)) = false := decide_eq_false (by omega)
      have HQ := Aside0.mk (fs_ok (fun j h => HA.out j h h))
      rw [List.take_length]
      go_wp2
      exact bodyPost_ret (v := .tuple #[.string (fsS F.length F), .bool true]) (by simp [results, Try.results50, go_sem]) rfl ⟨.inl ⟨HQ.out, rfl⟩, HB.out⟩
    | succ k1 =>
      have hil : i < F.length := by omega
      have hd : decide ((i : Int) < (F.length : Int)) = true := decide_eq_true (by omega)
      obtain ⟨ad, Ap, cp, Al, cl, Ab, cb, e, hx0, hx1, hx2, hx3, hRd⟩ := HR.out i hil
      subst e
      have hbl := HB.out
      replace hx0 := (hbl.cell (World.block_lt_of_cell? w _ hx0)).trans hx0
      replace hx1 := (hbl.cell (World.block_lt_of_cell? w _ hx1)).trans hx1
      replace hx2 := (hbl.cell (World.block_lt_of_cell? w _ hx2)).trans hx2
      replace hx3 := (hbl.cell (World.block_lt_of_cell? w _ hx3)).trans hx3
      have HRd := Aside0.mk (FnR.below hRd hbl)
      have HLi := Aside0.mk (HL.out F[i] (List.getElem_mem hil))
      have HWi := Aside0.mk (HW.out F[i] (List.getElem_mem hil))
      have HSn := Aside0.mk (fsS_snoc F.length F i hil)
      have HSz := Aside0.mk (fsS_size F.length (by have := HF.out; omega) F i (by omega))
      have HBad := Aside0.mk (fun (h : (fbR F[i]).2 = false) => (show ∃ j, ∃ hj : j < F.length, (fbR F[j]).2 = false from ⟨i, hil, h⟩))
      have HOk := Aside0.mk (fun (h : (fbR F[i]).2 = true) j (hj : j < F.length) (hji : j < i + 1) => (show (fbR F[j]).2 = true from by
        by_cases e : j = i
        · subst e; exact h
        · exact HA.out j hj (by omega)))
      have HFz := Aside0.mk (fbR_size F[i])
      clear hRd hbl HA
      have cf := fun W (B : Below wr.heap.size wr W) => fb_i Ap cp F[i].1 F[i].2.1 Al cl F[i].2.2.1 Ab cb F[i].2.2.2 W (FnR.below HRd.out B) HLi.out.1 HLi.out.2.1 HLi.out.2.2 HWi.out
      have eR : fbM F[i].1 F[i].2.1 F[i].2.2.1 F[i].2.2.2 = fbR F[i] := rfl
      rw [eR] at cf
      clear eR
      generalize fbR F[i] = q at *
      generalize F[i] = f at *
      obtain ⟨p, r, lo, b⟩ := f
      obtain ⟨s, ok⟩ := q
      simp only at cf HSn HFz HBad HOk
      generalize fsS F.length (F.take i) = S at *
      have z1 : (9223372036854775807 < S.size + s.size) = False := eq_false (by have := HSz.out; have := HFz.out; have := HF.out; omega)
      have q1 : (0 : Int) ≤ (i : Int) := by omega
      have q2 : (i : Int) < (F.length : Int) := by omega
      have ew : IntKind.i64.wrap ((i : Int) + 1) = (i : Int) + 1 := by rw [IntKind.wrap_i64]; have := HF.out; omega
      cases ok with
      | false =>
        go_wp2_with (first | (go_at_call 27; (with_reducible refine (cf _ (by with_reducible repeat first | exact Below.refl _ _ | refine below_alloc ?_ _ | refine below_drew1 ?_ | refine pw_below_drewN ?_ _)).mono ?_); rintro e w2 ⟨rfl, hb2⟩))
        exact bodyPost_ret (v := .tuple #[.string ⟨#[]⟩, .bool false]) (by simp [results, Try.results50, go_sem]) rfl ⟨.inr ⟨HBad.out (by first | trivial | rfl), rfl⟩, below_step HB.out (by with_reducible repeat first | exact Below.refl _ _ | refine below_alloc ?_ _ | refine below_drew1 ?_ | refine pw_below_drewN ?_ _ | refine below_step ?_ hb2)⟩
      | true =>
        go_wp2_with (first | (go_at_call 27; (with_reducible refine (cf _ (by with_reducible repeat first | exact Below.refl _ _ | refine below_alloc ?_ _ | refine below_drew1 ?_ | refine pw_below_drewN ?_ _)).mono ?_); rintro e w2 ⟨rfl, hb2⟩))
        go_roundg k1
        case measure => omega
        case rel => exact ⟨i + 1, by omega, by rw [Int.natCast_add]; rfl, by rw [HSn.out], ⟨HOk.out (by first | trivial | rfl)⟩, ⟨below_step HB.out (by with_reducible repeat first | exact Below.refl _ _ | refine below_alloc ?_ _ | refine below_drew1 ?_ | refine pw_below_drewN ?_ _ | refine below_step ?_ hb2)⟩⟩
theorem lit_kept (l : List Int) (hl : l.length ≤ 1000000) (X W : World) (b : Nat) (hb : b = X.heap.size) (hB : Below (X.alloc (.cells (nums .u8 l).toArray 5)).heap.size (X.alloc (.cells (nums .u8 l).toArray 5)) W) : (convert 111 9 (.slice (some ⟨b, 0, none⟩) l.length l.length)).run Try.prog W = .ok (.string (strOfNums l)) W := by
  subst hb
  refine run_convert_bytes_arg W 111 5 Try.underlying111 Try.underlying5 X.heap.size 0 l.length l.length l rfl (fun i hi => ?_) 9 Try.underlying9
  have h1 := (bcell hB).1 X.heap.size i (by simp)
  have h2 : (X.alloc (.cells (nums .u8 l).toArray 5)).heap[X.heap.size]? = some (.cells (nums .u8 l).toArray 5 (0, 0)) := by
    show (X.heap.push _)[X.heap.size]? = _
    rw [Array.getElem?_push, if_pos rfl]
  have h3 := (Lib.cell_of_heap h2 i)
  have h4 : (nums .u8 l).toArray[i]? = some (.int .u8 l[i]) := by unfold nums; simp [hi]
  simpa [hi] using h1.trans (h3.trans h4)
set_option maxRecDepth 100000 in
set_option maxHeartbeats 40000000 in
theorem glb_i (A : Option Addr) (c : Nat) (G : List Glo) (w : World) (hr : Kd.C kG w A G.length G) (hG : G.length ≤ 6) (hw : ∀ g ∈ G, 0 ≤ g.2.2 ∧ g.2.2 < 18446744073709551616) : Calls Try.prog 52 #[.slice A G.length c] w fun e w' => e = .returned (.string (gsS G.length G)) ∧ Below w.heap.size w w' := by
  have HR := Aside0.mk hr
  have HW := Aside0.mk hw
  have HG := Aside0.mk hG
  have cu := fun W => uleb_i (G.length : Int) (by omega) (by omega) W
  have ew0 : IntKind.u64.wrap (G.length : Int) = G.length := by rw [IntKind.wrap_u64]; omega
  clear hr hG hw
  go_enter Try.func52, Try.ntmps52
  go_wp2_with (first | (go_at_call 51; (with_reducible refine (cu _).mono ?_); rintro e w1 ⟨rfl, hb1⟩))
  have HB1 := Aside0.mk (show Below w.heap.size w w1 from below_step (by with_reducible repeat first | exact Below.refl _ _ | refine below_alloc ?_ _ | refine below_drew1 ?_ | refine pw_below_drewN ?_ _) hb1)
  clear hb1 cu ew0
  go_loopg [3, 13] G.length (fun kq v3 v13 w' => ∃ i : Nat, i + kq = G.length ∧ v13 = .int .i64 i ∧ v3 = .string (gsS G.length (G.take i)) ∧ Aside0 (Below w.heap.size w w'))
  case atStart => exact ⟨0, by omega, rfl, rfl, HB1⟩
  case round =>
    clear HB1
    obtain ⟨i, hi, rfl, rfl, HB⟩ := hrel
    cases gk with
    | zero =>
      obtain rfl : i = G.length := by omega
      have hd : decide ((G.length : Int) < (G.length : Int)) = false := decide_eq_false (by omega)
      rw [List.take_length]
      go_wp2
      go_ret
      exact ⟨rfl, HB.out⟩
    | succ k1 =>
      have hil : i < G.length := by omega
      have hd : decide ((i : Int) < (G.length : Int)) = true := decide_eq_true (by omega)
      obtain ⟨ad, e, hx0, hx1, hx2⟩ := at_gl HR.out i hil
      subst e
      have hbl := HB.out
      replace hx0 := (hbl.cell (World.block_lt_of_cell? w _ hx0)).trans hx0
      replace hx1 := (hbl.cell (World.block_lt_of_cell? w _ hx1)).trans hx1
      replace hx2 := (hbl.cell (World.block_lt_of_cell? w _ hx2)).trans hx2
      have HWi := Aside0.mk (HW.out G[i] (List.getElem_mem hil))
      have HSn := Aside0.mk (gsS_snoc G.length G i hil)
      have HSz := Aside0.mk (gsS_size G.length (by have := HG.out; omega) G HW.out i (by omega))
      clear hbl
      generalize G[i] = g at *
      obtain ⟨ty, fx, bt⟩ := g
      simp only at hx0 hx1 hx2 HWi
      generalize gsS G.length (G.take i) = S at *
      have q1 : (0 : Int) ≤ (i : Int) := by omega
      have q2 : (i : Int) < (G.length : Int) := by omega
      have ew : IntKind.i64.wrap ((i : Int) + 1) = (i : Int) + 1 := by rw [IntKind.wrap_i64]; have := HG.out; omega
      have cu2 := fun W => uleb_i bt HWi.out.1 HWi.out.2 W
      have ew2 : IntKind.u8.wrap ty = ty % 256 := by rw [IntKind.wrap_u8]
      have HU := Aside0.mk (ulebS_told bt HWi.out.1 HWi.out.2).1
      generalize hfz : (if fx = true then (1 : Int) else 0) = fz
      have HGl : Aside0 (glB (ty, fx, bt) = strOfNums [ty % 256, fz] ++ ulebS bt) := ⟨by rw [← hfz]; rfl⟩
      have HLz : Aside0 ((strOfNums [ty % 256, fz]).size = 2) := ⟨by rw [Pl.strOfNums_size]; rfl⟩
      rw [HGl.out] at HSn
      clear HGl
      have hl1 : ∀ X : World, (convert 111 9 (.slice (some ⟨X.heap.size, 0, none⟩) 2 2)).run Try.prog (X.alloc (.cells #[.int .u8 (ty % 256), .int .u8 fz] 5)) = .ok (.string (strOfNums [ty % 256, fz])) (X.alloc (.cells #[.int .u8 (ty % 256), .int .u8 fz] 5)) := fun X => lit_kept [ty % 256, fz] (by simp) X _ _ rfl (Below.refl _ _)
      have hl2 : ∀ o : Obj, (convert 111 9 (.slice (some ⟨wr.heap.size + 1, 0, none⟩) 2 2)).run Try.prog ((wr.alloc o).alloc (.cells #[.int .u8 (ty % 256), .int .u8 fz] 5)).drew = .ok (.string (strOfNums [ty % 256, fz])) ((wr.alloc o).alloc (.cells #[.int .u8 (ty % 256), .int .u8 fz] 5)).drew := fun o => lit_kept [ty % 256, fz] (by simp) (wr.alloc o) _ _ (by simp) (below_drew1 (Below.refl _ _))
      generalize hLT : strOfNums [ty % 256, fz] = LT at *
      generalize ulebS bt = U at *
      have x1 : (9223372036854775807 < LT.size + U.size) = False := eq_false (by have := HU.out; have := HLz.out; omega)
      have x2 : (9223372036854775807 < S.size + (LT ++ U).size) = False := eq_false (by rw [ByteArray.size_append]; have := HU.out; have := HLz.out; have := HSz.out; have := HG.out; omega)
      have x2' : (9223372036854775807 < S.size + (LT.size + U.size)) = False := eq_false (by have := HU.out; have := HLz.out; have := HSz.out; have := HG.out; omega)
      have HLT := Aside0.mk hLT
      clear hLT
      cases fx with
      | false =>
        obtain rfl : fz = 0 := by rw [← hfz]; rfl
        clear hfz
        go_wp2
        go_region_held_law (fun w' => w'.cell? ⟨wr.heap.size, 0, none⟩ = some (.int .i64 ty) ∧ w'.cell? ⟨wr.heap.size, 2, none⟩ = some (.int .u64 bt)) (refine ⟨?_, ?_⟩ <;> go_simp) (first | (go_at_call 51; (with_reducible refine (cu2 _).mono ?_); rintro e w2 ⟨rfl, hb2⟩; have hz2 : wr.heap.size < w2.heap.size := (by have := hb2.size; first | omega | (simp at this; omega)); (first | (have hv2 : (convert 111 9 (.slice (some ⟨wr.heap.size + 1, 0, none⟩) 2 2)).run Try.prog w2 = .ok (.string LT) w2 := (by rw [← HLT.out]; exact lit_kept [ty % 256, 0] (by simp) (wr.alloc (.cells #[.int .i64 ty, .bool false, .int .u64 bt] 79)) w2 _ (by simp) (below_step (below_drew1 (Below.refl _ _)) hb2))) | skip); have j0 : w2.cell? ⟨wr.heap.size, 0, none⟩ = some (.int .i64 ty) := (by rw [hb2.cell (by first | (simp; done) | (simp; omega))]; go_simp); have j2 : w2.cell? ⟨wr.heap.size, 2, none⟩ = some (.int .u64 bt) := (by rw [hb2.cell (by first | (simp; done) | (simp; omega))]; go_simp)))
        all_goals
          first | (rename_i kk; refine kk _ _ ?_) | (rename_i kk _; refine kk _ _ ?_) | (rename_i kk _ _; refine kk _ _ ?_) | (rename_i kk _ _ _; refine kk _ _ ?_) | skip
          go_wp2
          go_roundg k1
          case measure => omega
          case rel => exact ⟨i + 1, by omega, by rw [Int.natCast_add]; rfl, by rw [HSn.out], ⟨below_step HB.out (by with_reducible repeat first | exact Below.refl _ _ | refine below_alloc ?_ _ | refine below_drew1 ?_ | refine pw_below_drewN ?_ _ | refine below_step ?_ hb2)⟩⟩
      | true =>
        obtain rfl : fz = 1 := by rw [← hfz]; rfl
        clear hfz
        go_wp2
        go_region_held_law (fun w' => w'.cell? ⟨wr.heap.size, 0, none⟩ = some (.int .i64 ty) ∧ w'.cell? ⟨wr.heap.size, 2, none⟩ = some (.int .u64 bt)) (refine ⟨?_, ?_⟩ <;> go_simp) (first | (go_at_call 51; (with_reducible refine (cu2 _).mono ?_); rintro e w2 ⟨rfl, hb2⟩; have hz2 : wr.heap.size < w2.heap.size := (by have := hb2.size; first | omega | (simp at this; omega)); (first | (have hv2 : (convert 111 9 (.slice (some ⟨wr.heap.size + 1, 0, none⟩) 2 2)).run Try.prog w2 = .ok (.string LT) w2 := (by rw [← HLT.out]; exact lit_kept [ty % 256, 1] (by simp) (wr.alloc (.cells #[.int .i64 ty, .bool true, .int .u64 bt] 79)) w2 _ (by simp) (below_step (below_drew1 (Below.refl _ _)) hb2))) | skip); have j0 : w2.cell? ⟨wr.heap.size, 0, none⟩ = some (.int .i64 ty) := (by rw [hb2.cell (by first | (simp; done) | (simp; omega))]; go_simp); have j2 : w2.cell? ⟨wr.heap.size, 2, none⟩ = some (.int .u64 bt) := (by rw [hb2.cell (by first | (simp; done) | (simp; omega))]; go_simp)))
        all_goals
          first | (rename_i kk; refine kk _ _ ?_) | (rename_i kk _; refine kk _ _ ?_) | (rename_i kk _ _; refine kk _ _ ?_) | (rename_i kk _ _ _; refine kk _ _ ?_) | skip
          go_wp2
          go_roundg k1
          case measure => omega
          case rel => exact ⟨i + 1, by omega, by rw [Int.natCast_add]; rfl, by rw [HSn.out], ⟨below_step HB.out (by with_reducible repeat first | exact Below.refl _ _ | refine below_alloc ?_ _ | refine below_drew1 ?_ | refine pw_below_drewN ?_ _ | refine below_step ?_ hb2)⟩⟩
end Go.Proofs.Ytfhnffondamhdaa.OwnMbI
namespace Go.Proofs.Ytfhnffondamhdaa.OwnMbW
open Go Go.RowKit Go.Proofs.YtfhnffondamhdaaW.PrintWords Go.Proofs.YtfhnffondamhdaaW.PrintLast Go.Proofs.YtfhnffondamhdaaW.PrintMore Go.Proofs.Ytfhnffondamhdaa.OwnBs Go.Proofs.Ytfhnffondamhdaa.OwnKp Go.Proofs.Ytfhnffondamhdaa.OwnBytes Go.Proofs.Ytfhnffondamhdaa.OwnCode Go.Proofs.Ytfhnffondamhdaa.OwnSt Go.Proofs.Ytfhnffondamhdaa.OwnFn Go.Proofs.Ytfhnffondamhdaa.OwnTo Go.Proofs.Ytfhnffondamhdaa.OwnFs Go.Proofs.Ytfhnffondamhdaa.OwnMd Go.Proofs.Ytfhnffondamhdaa.OwnGs Go.Proofs.Ytfhnffondamhdaa.OwnBc Go.Proofs.Ytfhnffondamhdaa.OwnFb Go.Proofs.Ytfhnffondamhdaa.OwnFbC Go.Proofs.Ytfhnffondamhdaa.OwnSec Go.Proofs.Ytfhnffondamhdaa.OwnGsI Go.Proofs.Ytfhnffondamhdaa.OwnSecI Go.Proofs.Ytfhnffondamhdaa.OwnMb Go.Proofs.Ytfhnffondamhdaa.OwnMbI
set_option linter.unusedVariables false
set_option linter.unusedSimpArgs false
theorem mbG_eq (F : List Rec) (G : List Glo) (mem : Bool) (pages most start : Int) : F.all (fun f => (fbR f).2) = true → mbG F G mem pages most start = (if (secM (((scF F ++ scM mem pages most) ++ scG G) ++ scT start)).2 = true then (bytesM 1836085504 4 ++ (secM (((scF F ++ scM mem pages most) ++ scG G) ++ scT start)).1, true) else (⟨#[]⟩, false)) := fun h => by
  unfold mbG
  rw [if_pos h]
theorem kSI : (Try.prog.info? 92).map (fun i => (i.zero, i.size, i.bytes)) = some (some (.agg #[(.int .i64 0), (.string ByteArray.empty)]), 2, 24) := by kernel_rfl
section
variable {ops : Array Oper} {rest : List Oper} {o : Oper} {a : Act} {Q : Exit → Act → World → Prop}
/-- l = append(l, Section{..}) -/
theorem app_sec {w0 W : World} {v : Value} {xs : List (Int × ByteArray)} (HO : Kd.R kS 92 W w0.heap.size (fun _ => True) v xs) (HB : Below w0.heap.size w0 W) (y : Int × ByteArray) (hl : xs.length ≤ 1048576) (hgd : o.guard = none) (s x : Operand) (ho : o.op = .call { callee := .builtin .append, args := #[s, x], argTypes := #[89, 89] })
    (hs : a.eval s = v) (b : Nat) (hx : a.eval x = .slice (some ⟨b, 0, none⟩) 1 1) (hb : b = W.heap.size)
    (K : ∀ v1 w1, Kd.R kS 92 w1 w0.heap.size (fun _ => True) v1 (xs ++ [y]) → Below w0.heap.size w0 w1 → W.grownBy w1 v.ownBlock → wpList Try.prog ops Q rest (a.put o.dst v1) w1) : wpList Try.prog ops Q (o :: rest) a (W.alloc (.cells #[.int .i64 y.1, .string y.2] 92)) := by
  subst hb
  exact Kd.R_append kS (w0 := w0) w0.heap.size hgd s x 89 92 (.agg #[.int .i64 0, .string ByteArray.empty]) 24 ho Try.underlying89 kSI rfl (by decide) (by decide) v xs y [.int .i64 y.1, .string y.2] (fun _ => True) (fun _ => False) hs hx ⟨[.int .i64 y.1], [.string y.2], rfl, rfl, rfl⟩ (fun _ hk => hk.elim) (fun _ _ => trivial) HO HB HB.size (by omega) (fun v1 w1 h1 h2 h3 _ => K v1 w1 h1 h2 h3)
variable {Kc : Act → World → Prop}
theorem app_sec_step {w0 W : World} {v : Value} {xs : List (Int × ByteArray)} (HO : Kd.R kS 92 W w0.heap.size (fun _ => True) v xs) (HB : Below w0.heap.size w0 W) (y : Int × ByteArray) (hl : xs.length ≤ 1048576) (hw : Region.wanted o (yielded ops a.tmps) = true) (N : Tmp) (hd : o.dst = some N) (s x : Operand) (ho : o.op = .call { callee := .builtin .append, args := #[s, x], argTypes := #[89, 89] })
    (hs : a.eval s = v) (b : Nat) (hx : a.eval x = .slice (some ⟨b, 0, none⟩) 1 1) (hb : b = W.heap.size)
    (K : ∀ v1 w1, Kd.R kS 92 w1 w0.heap.size (fun _ => True) v1 (xs ++ [y]) → Below w0.heap.size w0 w1 → W.grownBy w1 v.ownBlock → Kc (a.put (some N) v1) w1) : if Region.wanted o (yielded ops a.tmps) = true then Oper.wp Try.prog o a (W.alloc (.cells #[.int .i64 y.1, .string y.2] 92)) Kc Q else Kc (a.put o.dst undef) (W.alloc (.cells #[.int .i64 y.1, .string y.2] 92)) := by
  subst hb
  exact Kd.R_append_step kS (w0 := w0) w0.heap.size hw s x 89 92 (.agg #[.int .i64 0, .string ByteArray.empty]) 24 ho Try.underlying89 kSI rfl (by decide) (by decide) v xs y [.int .i64 y.1, .string y.2] (fun _ => True) (fun _ => False) hs hx ⟨[.int .i64 y.1], [.string y.2], rfl, rfl, rfl⟩ (fun _ hk => hk.elim) (fun _ _ => trivial) HO HB HB.size (by omega) (fun v1 w1 h1 h2 h3 _ => by rw [hd]; exact K v1 w1 h1 h2 h3)
end
theorem gs_mem2 {F : List Rec} {G : List Glo} {mem : Bool} {pages most start : Int} (h : gsM F G mem pages most start = true) (hm : mem = true) : 0 ≤ pages ∧ pages ≤ most ∧ most ≤ 8 := by
  unfold gsM at h
  simp only [Bool.and_eq_true] at h
  have := h.2.2.2.2.1
  unfold memB at this
  rw [if_pos hm] at this
  exact of_decide_eq_true this
theorem gs_st2 {F : List Rec} {G : List Glo} {mem : Bool} {pages most start : Int} (h : gsM F G mem pages most start = true) : start = -1 ∨ 0 ≤ start := by
  unfold gsM at h
  simp only [Bool.and_eq_true] at h
  have := h.2.2.2.2.2
  unfold stB at this
  by_cases e : start = -1
  · exact .inl e
  · rw [if_neg e, Bool.and_eq_true] at this
    exact .inr (of_decide_eq_true this.1)
theorem secM_size (l : List (Int × ByteArray)) : (secM l).1.size ≤ 4000 := by
  unfold secM
  split
  · split
    · exact Nat.zero_le _
    · dsimp only; omega
  · exact Nat.zero_le _
theorem R_emp (W : World) (base : Nat) (hb : base ≤ W.heap.size) : Kd.R kS 92 (W.alloc (.cells #[] 92)) base (fun _ => True) (.slice (some ⟨W.heap.size, 0, none⟩) 0 0) [] :=
  ⟨fun _ _ => trivial, OwnRow.lit (ps := ([] : List (Int × ByteArray))) W base (Reps.none _ _) hb (by simp)⟩
/-- The sections so far, beside the module's own box. -/
structure LS (w wx : World) (v : Value) (L : List (Int × ByteArray)) (Af : Option Addr) (cf nF : Nat) (Ag : Option Addr) (cg nG : Nat) (mem : Bool) (pages most start : Int) : Prop where
  row : Kd.R kS 92 wx w.heap.size (fun _ => True) v L
  mc : MC w wx Af cf nF Ag cg nG mem pages most start
/-- .. when one more has been appended. -/
theorem MC.gr {w W w1 : World} {v : Value} {xs : List (Int × ByteArray)} {Af : Option Addr} {cf nF : Nat} {Ag : Option Addr} {cg nG : Nat} {mem : Bool} {pages most start : Int} (h : MC w W Af cf nF Ag cg nG mem pages most start) (hR : Kd.R kS 92 W (w.heap.size + 1) (fun _ => True) v xs) (hg : W.grownBy w1 v.ownBlock) (hB : Below w.heap.size w w1) : MC w w1 Af cf nF Ag cg nG mem pages most start :=
  have e : ∀ q, w1.cell? ⟨w.heap.size, q, none⟩ = W.cell? ⟨w.heap.size, q, none⟩ := fun q => World.cell?_of_block (hg.block _ h.lt (fun e => by have := ((Kd.R_bound hR).1 _ e.symm).2.1; dsimp only at this; omega))
  ⟨(e _).trans h.c0, (e _).trans h.c1, (e _).trans h.c2, (e _).trans h.c3, (e _).trans h.c4, (e _).trans h.c5, Nat.lt_of_lt_of_le h.lt hg.size, hB⟩
set_option maxRecDepth 100000 in
set_option maxHeartbeats 80000000 in
theorem mb_good_i (Af : Option Addr) (cf : Nat) (F : List Rec) (Ag : Option Addr) (cg : Nat) (G : List Glo) (mem : Bool) (pages most start : Int) (w : World) (hr : MdR w Af cf F Ag cg G) (hF : F.length ≤ 1048576) (hf : ∀ f ∈ F, lens f) (hG : G.length ≤ 1048576) (hS : -9223372036854775808 ≤ start) (hS2 : start ≤ 9223372036854775807) (hw : ∀ f ∈ F, ∀ p ∈ f.2.2.2, -9223372036854775808 ≤ p.2 ∧ p.2 < 9223372036854775808) (hg : ∀ g ∈ G, 0 ≤ g.2.2 ∧ g.2.2 < 18446744073709551616) (good : gsM F G mem pages most start = true) : Calls Try.prog 18 #[mdV Af cf F Ag cg G mem pages most start] w fun e w' => e = .returned (.tuple #[.string (mbG F G mem pages most start).1, .bool (mbG F G mem pages most start).2]) ∧ Below w.heap.size w w' := by
  have HR := Aside0.mk hr
  have c1 := fun W (B : Below w.heap.size w W) => gsh_i Af cf F Ag cg G mem pages most start W (HR.out.below B) hF hf hG hS hS2
  rw [good] at c1
  have g0 := good
  unfold gsM at g0
  simp only [Bool.and_eq_true, decide_eq_true_eq] at g0
  have L10 := Aside0.mk g0.1
  have L6 := Aside0.mk g0.2.1
  have HX := Aside0.mk (mbG_eq F G mem pages most start)
  have HBad := Aside0.mk (fun (h : ∃ i, ∃ h : i < F.length, (fbR F[i]).2 = false) => (show mbG F G mem pages most start = (⟨#[]⟩, false) from by obtain ⟨i, hi, hb⟩ := h; exact fs_bad i hi hb G mem pages most start))
  obtain ⟨W0, hW0⟩ : ∃ W0, W0 = w.alloc (.cells #[.slice Af F.length cf, .slice Ag G.length cg, .bool mem, .int .i64 pages, .int .i64 most, .int .i64 start] 37) := ⟨_, rfl⟩
  have HM0 : Aside0 (MC w W0 Af cf F.length Ag cg G.length mem pages most start) := ⟨by subst hW0; exact ⟨by go_simp, by go_simp, by go_simp, by go_simp, by go_simp, by go_simp, by simp, by with_reducible repeat first | exact Below.refl _ _ | refine below_alloc ?_ _ | refine below_drew1 ?_ | refine pw_below_drewN ?_ _⟩⟩
  have hs0 : W0.heap.size = w.heap.size + 1 := by subst hW0; simp
  have cf' : ∀ W, Below W0.heap.size W0 W → Calls Try.prog 50 #[.slice Af F.length cf] W fun e w' => (∃ s b, e = .returned (.tuple #[.string s, .bool b]) ∧ ((b = true ∧ F.all (fun f => (fbR f).2) = true ∧ s = fsS F.length F) ∨ (b = false ∧ ∃ i, ∃ h : i < F.length, (fbR F[i]).2 = false))) ∧ Below W.heap.size W w' := fun W B => (fsb_i Af cf F W (FsR.below HR.out.f1 (below_step HM0.out.bel B)) L10.out hf hw).mono (by
    rintro e w' ⟨⟨h1, rfl⟩ | ⟨h1, rfl⟩, hb⟩
    · exact ⟨⟨_, true, rfl, .inl ⟨rfl, h1, rfl⟩⟩, hb⟩
    · exact ⟨⟨_, false, rfl, .inr ⟨rfl, h1⟩⟩, hb⟩)
  have cg' := fun W (B : Below W0.heap.size W0 W) => glb_i Ag cg G W (Kd.C_below HR.out.g1 (below_step HM0.out.bel B)) L6.out hg
  have HF0 : Aside0 (0 < F.length → scF F = [(1, fsS F.length F)]) := ⟨fun h => if_pos h⟩
  have HF1 : Aside0 (¬ 0 < F.length → scF F = [] ∧ F.all (fun f => (fbR f).2) = true) := ⟨fun h => ⟨if_neg h, by cases F with | nil => rfl | cons x y => exact absurd (Nat.succ_pos _) h⟩⟩
  have HMem : Aside0 (mem = true → 0 ≤ pages ∧ pages ≤ most ∧ most ≤ 8) := ⟨gs_mem2 good⟩
  have HSt : Aside0 (start = -1 ∨ 0 ≤ start) := ⟨gs_st2 good⟩
  have HFl : Aside0 ((scF F).length ≤ 1) := ⟨by unfold scF; split <;> simp⟩
  generalize mbG F G mem pages most start = X at *
  clear g0 good hr hF hf hG hw hg
  go_enter Try.func18, Try.ntmps18
  go_upto_if 16 with (first | (go_at_call 30; (with_reducible refine (c1 _ (by with_reducible repeat first | exact Below.refl _ _ | refine below_alloc ?_ _ | refine below_drew1 ?_ | refine pw_below_drewN ?_ _)).mono ?_); rintro e w1 ⟨rfl, hb1⟩; obtain ⟨hc1, hf1⟩ := bcell hb1; have hz1 : w.heap.size < w1.heap.size := (by have := hb1.size; first | omega | (simp at this; omega))))
  rw [← hW0] at hb1
  clear c1 hc1 hf1
  have HE := Aside0.mk (R_emp w1 W0.heap.size hb1.size)
  have HBE := Aside0.mk (below_alloc hb1 (.cells #[] 92))
  go_cut [4] (fun v4 wx => ∃ A c, v4 = .slice A (scF F).length c ∧ Aside0 (Kd.R kS 92 wx W0.heap.size (fun _ => True) (.slice A (scF F).length c) (scF F)) ∧ Aside0 (Below W0.heap.size W0 wx) ∧ Aside0 (F.all (fun f => (fbR f).2) = true))
  case first =>
    by_cases h : 0 < F.length
    · have hd : decide (0 < F.length) = true := decide_eq_true h
      have hd2 : decide ((0 : Int) < (F.length : Int)) = true := decide_eq_true (by omega)
      have HL := Aside0.mk (HF0.out h)
      have hM := MC.below HM0.out hb1
      obtain ⟨c0, c1, c2, c3, c4, c5, clt, cbe⟩ := hM
      go_upto_if 24 with (first | (go_at_call 50; (with_reducible refine (cf' _ HBE.out).mono ?_); rintro e w2 ⟨⟨s, b, rfl, hcase⟩, hb2⟩))
      have HO2 := Aside0.mk (Kd.R_below HE.out hb2)
      have HB2 := Aside0.mk (below_step HBE.out hb2)
      rcases hcase with ⟨rfl, hall, rfl⟩ | ⟨rfl, hbad⟩
      · go_wp2_with (first | (at_builtin; refine app_sec (w0 := W0) HO2.out HB2.out (1, fsS F.length F) (by simp) rfl _ _ rfl rfl _ rfl (by simp) ?_; intro v1 u1 R1 B1 G1; clear G1; obtain ⟨A1, d1, rfl⟩ := Kd.R_slice R1; have HR1 := Aside0.mk R1; have HB1 := Aside0.mk B1; clear R1 B1))
        go_meet
        case rel => exact ⟨A1, d1, by rw [HL.out]; rfl, ⟨by rw [HL.out]; exact HR1.out⟩, HB1, ⟨hall⟩⟩
      · have HX2 := HBad.out hbad
        go_wp2
        refine bodyPost_ret (v := .tuple #[.string ⟨#[]⟩, .bool false]) (by simp [results, Try.results18, go_sem]) rfl ⟨by rw [HX2], below_step HM0.out.bel HB2.out⟩
    · have hd : decide (0 < F.length) = false := decide_eq_false h
      have hd2 : decide ((0 : Int) < (F.length : Int)) = false := decide_eq_false (by omega)
      have HL := Aside0.mk (HF1.out h)
      go_wp2
      go_meet
      case rel => exact ⟨_, _, by rw [HL.out.1]; rfl, ⟨by rw [HL.out.1]; exact HE.out⟩, HBE, ⟨HL.out.2⟩⟩
  case rest =>
    clear HE HBE hb1
    obtain ⟨A, c, rfl, HO, HB, HAll⟩ := hcut
    clear HF0 HF1 cf' HBad
    obtain ⟨c0, c1, c2, c3, c4, c5, clt, cbe⟩ := MC.below HM0.out HB.out
    go_upto_if 31 with fail
    go_cut [4] (fun v4 wx => ∃ A c, v4 = .slice A (scF F ++ scM mem pages most).length c ∧ Aside0 (Kd.R kS 92 wx W0.heap.size (fun _ => True) (.slice A (scF F ++ scM mem pages most).length c) (scF F ++ scM mem pages most)) ∧ Aside0 (Below W0.heap.size W0 wx))
    case first =>
      clear cg'
      cases mem with
      | true =>
        obtain ⟨m1, m2, m3⟩ := HMem.out rfl
        have cu1 := fun W => uleb_i pages m1 (by omega) W
        have cu2 := fun W => uleb_i most (by omega) (by omega) W
        have e1 : IntKind.u64.wrap pages = pages := by rw [IntKind.wrap_u64]; omega
        have e2 : IntKind.u64.wrap most = most := by rw [IntKind.wrap_u64]; omega
        have HU1 := Aside0.mk (ulebS_told pages m1 (by omega)).1
        have HU2 := Aside0.mk (ulebS_told most (by omega) (by omega)).1
        have HLM : Aside0 (scM true pages most = [(5, ulebS pages ++ ulebS most)]) := ⟨rfl⟩
        obtain ⟨U1, hU1⟩ : ∃ x, x = ulebS pages := ⟨_, rfl⟩
        obtain ⟨U2, hU2⟩ : ∃ x, x = ulebS most := ⟨_, rfl⟩
        rw [← hU1] at HU1 cu1 HLM
        rw [← hU2] at HU2 cu2 HLM
        clear hU1 hU2
        have x1 : (9223372036854775807 < U1.size + U2.size) = False := eq_false (by have := HU1.out; have := HU2.out; omega)
        clear c0 c1 c2 c5 cbe m1 m2 m3
        go_wp2
        go_region_held_law (fun w' => w'.cell? ⟨w.heap.size, 3, none⟩ = some (.int .i64 pages) ∧ w'.cell? ⟨w.heap.size, 4, none⟩ = some (.int .i64 most)) (refine ⟨?_, ?_⟩ <;> go_simp) (first | (go_at_call 51; (first | (with_reducible refine (cu1 _).mono ?_) | (with_reducible refine (cu2 _).mono ?_)); rintro e w2 ⟨rfl, hb2⟩; have hz2 : w.heap.size < w2.heap.size := (by have := hb2.size; first | omega | (simp at this; omega)); have j3 : w2.cell? ⟨w.heap.size, 3, none⟩ = some (.int .i64 pages) := (by rw [hb2.cell (by first | assumption | (simp; done) | (simp; omega))]; go_simp); have j4 : w2.cell? ⟨w.heap.size, 4, none⟩ = some (.int .i64 most) := (by rw [hb2.cell (by first | assumption | (simp; done) | (simp; omega))]; go_simp); (first | have HO := Aside0.mk (Kd.R_below HO.out hb2) | have HO := Aside0.mk (Kd.R_below (Kd.R_drew HO.out) hb2) | have HO := Aside0.mk (Kd.R_below (Kd.R_drewN HO.out _) hb2)); (first | have HB := Aside0.mk (below_step HB.out hb2) | have HB := Aside0.mk (below_step (below_drew HB.out) hb2) | have HB := Aside0.mk (below_step (pw_below_drewN HB.out _) hb2))) | ((first | (refine app_sec_step (w0 := W0) HO.out HB.out (5, U1 ++ U2) (by have := HFl.out; omega) rfl 44 rfl _ _ rfl rfl _ rfl (by simp) ?_) | (refine app_sec_step (w0 := W0) (Kd.R_drew HO.out) (below_drew HB.out) (5, U1 ++ U2) (by have := HFl.out; omega) rfl 44 rfl _ _ rfl rfl _ rfl (by simp) ?_)); intro v1 u1 R1 B1 G1; clear G1; obtain ⟨A1, d1, rfl⟩ := Kd.R_slice R1; have HR1 := Aside0.mk R1; have HB1 := Aside0.mk B1; have j3 := (MC.below HM0.out B1).c3; have j4 := (MC.below HM0.out B1).c4; clear R1 B1))
        all_goals
          first | (rename_i kk; refine kk _ _ ?_) | (rename_i kk _; refine kk _ _ ?_) | (rename_i kk _ _; refine kk _ _ ?_) | (rename_i kk _ _ _; refine kk _ _ ?_) | skip
          go_wp2_with (first | (at_builtin; refine app_sec (w0 := W0) HO.out HB.out (5, U1 ++ U2) (by have := HFl.out; omega) rfl _ _ rfl rfl _ rfl (by simp) ?_; intro v1 u1 R1 B1 G1; clear G1; obtain ⟨A1, d1, rfl⟩ := Kd.R_slice R1; have HR1 := Aside0.mk R1; have HB1 := Aside0.mk B1; clear R1 B1))
          go_meet
          case rel => exact ⟨A1, d1, by rw [HLM.out, List.length_append]; rfl, ⟨by rw [HLM.out]; first | exact HR1.out | exact (by rw [List.length_append] at HR1 ⊢; exact HR1.out)⟩, HB1⟩
      | false =>
        have HLM : Aside0 (scM false pages most = []) := ⟨rfl⟩
        go_wp2
        go_meet
        case rel => exact ⟨A, c, by rw [HLM.out, List.append_nil], ⟨by rw [HLM.out, List.append_nil]; exact HO.out⟩, HB⟩
    case rest =>
      clear HO HB c0 c1 c2 c3 c4 c5 clt cbe
      have HFl : Aside0 ((scF F ++ scM mem pages most).length ≤ 2) := ⟨by have := HFl.out; have : (scM mem pages most).length ≤ 1 := (by unfold scM; split <;> simp); rw [List.length_append]; omega⟩
      generalize scF F ++ scM mem pages most = L2 at hcut HX HFl
      obtain ⟨A, c, rfl, HO, HB⟩ := hcut
      obtain ⟨c0, c1, c2, c3, c4, c5, clt, cbe⟩ := MC.below HM0.out HB.out
      go_upto_if 48 with fail
      go_cut [4] (fun v4 wx => ∃ A c, v4 = .slice A (L2 ++ scG G).length c ∧ Aside0 (Kd.R kS 92 wx W0.heap.size (fun _ => True) (.slice A (L2 ++ scG G).length c) (L2 ++ scG G)) ∧ Aside0 (Below W0.heap.size W0 wx))
      case first =>
        by_cases h : 0 < G.length
        · have hd : decide (0 < G.length) = true := decide_eq_true h
          have hd2 : decide ((0 : Int) < (G.length : Int)) = true := decide_eq_true (by omega)
          have HLM : Aside0 (scG G = [(6, gsS G.length G)]) := ⟨if_pos h⟩
          go_wp2_with (first | (go_at_call 52; (with_reducible refine (cg' _ HB.out).mono ?_); rintro e w2 ⟨rfl, hb2⟩; have HO2 := Aside0.mk (Kd.R_below HO.out hb2); have HB2 := Aside0.mk (below_step HB.out hb2)) | (at_builtin; refine app_sec (w0 := W0) HO2.out HB2.out (6, gsS G.length G) (by have := HFl.out; omega) rfl _ _ rfl rfl _ rfl (by simp) ?_; intro v1 u1 R1 B1 G1; clear G1; obtain ⟨A1, d1, rfl⟩ := Kd.R_slice R1; have HR1 := Aside0.mk R1; have HB1 := Aside0.mk B1; clear R1 B1))
          go_meet
          case rel => exact ⟨A1, d1, by rw [HLM.out, List.length_append]; rfl, ⟨by rw [HLM.out]; first | exact HR1.out | exact (by rw [List.length_append] at *; exact HR1.out)⟩, HB1⟩
        · have hd : decide (0 < G.length) = false := decide_eq_false h
          have hd2 : decide ((0 : Int) < (G.length : Int)) = false := decide_eq_false (by omega)
          have HLM : Aside0 (scG G = []) := ⟨if_neg h⟩
          go_wp2
          go_meet
          case rel => exact ⟨A, c, by rw [HLM.out, List.append_nil], ⟨by rw [HLM.out, List.append_nil]; exact HO.out⟩, HB⟩
      case rest =>
        clear HO HB c0 c1 c2 c3 c4 c5 clt cbe
        have HFl : Aside0 ((L2 ++ scG G).length ≤ 3) := ⟨by have := HFl.out; have : (scG G).length ≤ 1 := (by unfold scG; split <;> simp); rw [List.length_append]; omega⟩
        generalize L2 ++ scG G = L3 at hcut HX HFl
        obtain ⟨A, c, rfl, HO, HB⟩ := hcut
        obtain ⟨c0, c1, c2, c3, c4, c5, clt, cbe⟩ := MC.below HM0.out HB.out
        go_upto_if 58 with fail
        go_cut [4] (fun v4 wx => ∃ A c, v4 = .slice A (L3 ++ scT start).length c ∧ Aside0 (Kd.R kS 92 wx W0.heap.size (fun _ => True) (.slice A (L3 ++ scT start).length c) (L3 ++ scT start)) ∧ Aside0 (Below W0.heap.size W0 wx))
        case first =>
          by_cases h : start = -1
          · have hd : decide (0 ≤ start) = false := decide_eq_false (by omega)
            have hd2 : decide (start < 0) = true := decide_eq_true (by omega)
            have HLM : Aside0 (scT start = []) := ⟨if_pos h⟩
            go_wp2
            go_meet
            case rel => exact ⟨A, c, by rw [HLM.out, List.append_nil], ⟨by rw [HLM.out, List.append_nil]; exact HO.out⟩, HB⟩
          · have h0 : 0 ≤ start := by have := HSt.out; omega
            have hd : decide (0 ≤ start) = true := decide_eq_true h0
            have hd2 : decide (start < 0) = false := decide_eq_false (by omega)
            have HLM : Aside0 (scT start = [(8, ulebS start)]) := ⟨if_neg h⟩
            have cu1 := fun W => uleb_i start h0 (by omega) W
            have e1 : IntKind.u64.wrap start = start := by rw [IntKind.wrap_u64]; omega
            go_wp2_with (first | (go_at_call 51; (with_reducible refine (cu1 _).mono ?_); rintro e w2 ⟨rfl, hb2⟩; have HO2 := Aside0.mk (Kd.R_below HO.out hb2); have HB2 := Aside0.mk (below_step HB.out hb2)) | (at_builtin; refine app_sec (w0 := W0) HO2.out HB2.out (8, ulebS start) (by have := HFl.out; omega) rfl _ _ rfl rfl _ rfl (by simp) ?_; intro v1 u1 R1 B1 G1; clear G1; obtain ⟨A1, d1, rfl⟩ := Kd.R_slice R1; have HR1 := Aside0.mk R1; have HB1 := Aside0.mk B1; clear R1 B1))
            go_meet
            case rel => exact ⟨A1, d1, by rw [HLM.out, List.length_append]; rfl, ⟨by rw [HLM.out]; first | exact HR1.out | exact (by rw [List.length_append] at *; exact HR1.out)⟩, HB1⟩
        case rest =>
          clear HO HB c0 c1 c2 c3 c4 c5 clt cbe
          have HFl : Aside0 ((L3 ++ scT start).length ≤ 4) := ⟨by have := HFl.out; have : (scT start).length ≤ 1 := (by unfold scT; split <;> simp); rw [List.length_append]; omega⟩
          generalize L3 ++ scT start = L4 at hcut HX HFl
          obtain ⟨A, c, rfl, HO, HB⟩ := hcut
          have HX := Aside0.mk (HX.out HAll.out)
          have HSz := Aside0.mk (secM_size L4)
          obtain ⟨r1, r2, r3⟩ := Kd.R_reads' HO.out
          have cs := impl_sec A c L4 wc r3 r2 (by have := HFl.out; omega)
          clear r1 r2 r3
          obtain ⟨sq, hsq⟩ : ∃ x, x = secM L4 := ⟨_, rfl⟩
          rw [← hsq] at cs HX HSz
          obtain ⟨s, ok⟩ := sq
          clear hsq
          simp only at cs HX HSz
          have cb : ∀ W, Calls Try.prog 54 #[.int .u64 1836085504, .int .i64 4] W fun e w' => e = .returned (.string (bytesM 1836085504 4)) ∧ Below W.heap.size W w' := fun W => bytes_i 1836085504 4 (by omega) (by omega) W
          have hb4 : (bytesM 1836085504 4).size = 4 := by
            unfold bytesM
            rw [Pl.strOfNums_size]
            rfl
          have x1 : (9223372036854775807 < (bytesM 1836085504 4).size + s.size) = False := eq_false (by have := HSz.out; rw [hb4]; omega)
          clear hb4
          go_upto_if 73 with (first | (go_at_call 53; (with_reducible refine cs.mono ?_); rintro e w2 ⟨rfl, hb2⟩))
          have HB2 := Aside0.mk (below_step HB.out hb2)
          cases ok with
          | true =>
            have HX := Aside0.mk (HX.out.trans (if_pos rfl))
            go_wp2_with (first | (go_at_call 54; (with_reducible refine (cb _).mono ?_); rintro e w3 ⟨rfl, hb3⟩))
            refine bodyPost_ret (v := .tuple #[.string (bytesM 1836085504 4 ++ s), .bool true]) (by simp [results, Try.results18, go_sem]) rfl ⟨by rw [HX.out]; first | rfl | simp, below_step HM0.out.bel (below_step HB2.out hb3)⟩
          | false =>
            have HX := Aside0.mk (HX.out.trans (if_neg (by decide)))
            go_wp2
            refine bodyPost_ret (v := .tuple #[.string ⟨#[]⟩, .bool false]) (by simp [results, Try.results18, go_sem]) rfl ⟨by rw [HX.out], below_step HM0.out.bel HB2.out⟩
set_option maxRecDepth 100000 in
set_option maxHeartbeats 8000000 in
/-- impl.ModuleBytes tells mbM. -/
theorem mb_i (Af : Option Addr) (cf : Nat) (F : List Rec) (Ag : Option Addr) (cg : Nat) (G : List Glo) (mem : Bool) (pages most start : Int) (w : World) (hr : MdR w Af cf F Ag cg G) (hF : F.length ≤ 1048576) (hf : ∀ f ∈ F, lens f) (hG : G.length ≤ 1048576) (hS : -9223372036854775808 ≤ start) (hS2 : start ≤ 9223372036854775807) (hw : ∀ f ∈ F, ∀ p ∈ f.2.2.2, -9223372036854775808 ≤ p.2 ∧ p.2 < 9223372036854775808) (hg : ∀ g ∈ G, 0 ≤ g.2.2 ∧ g.2.2 < 18446744073709551616) : Calls Try.prog 18 #[mdV Af cf F Ag cg G mem pages most start] w fun e w' => e = .returned (.tuple #[.string (mbM F G mem pages most start).1, .bool (mbM F G mem pages most start).2]) ∧ Below w.heap.size w w' := by
  unfold mbM
  by_cases good : gsM F G mem pages most start = true
  · rw [if_pos good]
    exact mb_good_i Af cf F Ag cg G mem pages most start w hr hF hf hG hS hS2 hw hg good
  · rw [if_neg good]
    rw [Bool.not_eq_true] at good
    have HR := Aside0.mk hr
    have c1 := fun W (B : Below w.heap.size w W) => gsh_i Af cf F Ag cg G mem pages most start W (HR.out.below B) hF hf hG hS hS2
    rw [good] at c1
    clear good hr hF hf hG hw hg
    go_enter Try.func18, Try.ntmps18
    go_wp2_with (first | (go_at_call 30; (with_reducible refine (c1 _ (by with_reducible repeat first | exact Below.refl _ _ | refine below_alloc ?_ _ | refine below_drew1 ?_ | refine pw_below_drewN ?_ _)).mono ?_); rintro e w1 ⟨rfl, hb1⟩))
    refine bodyPost_ret (v := .tuple #[.string ⟨#[]⟩, .bool false]) (by simp [results, Try.results18, go_sem]) rfl ⟨rfl, ?_⟩
    with_reducible repeat first | exact Below.refl _ _ | refine below_alloc ?_ _ | refine below_drew1 ?_ | refine pw_below_drewN ?_ _ | refine below_step ?_ hb1
end Go.Proofs.Ytfhnffondamhdaa.OwnMbW
