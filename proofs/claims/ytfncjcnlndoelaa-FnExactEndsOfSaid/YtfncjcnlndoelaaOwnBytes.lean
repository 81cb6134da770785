/- Numbers as bytes (the lowest first): walks of our own. -/
import Derived.Test.YtfncjcnlndoelaaPlainA
import Derived.Test.YtfncjcnlndoelaaProg
import Derived.Outline
import Derived.WalkKit
import Derived.Lib.Hide
namespace Go.Proofs.Ytfncjcnlndoelaa.OwnBytes
open Go Go.RowKit Go.Proofs.YtfncjcnlndoelaaW.PrintWords Go.Proofs.YtfncjcnlndoelaaW.PrintLast Go.Proofs.YtfncjcnlndoelaaW.PrintMore
set_option linter.unusedVariables false
set_option linter.unusedSimpArgs false
theorem info_u8 : (Try.prog.info? 5).map (fun i => (i.zero, i.size, i.bytes)) = some (some (.int .u8 0), 1, 1) := by kernel_rfl
/-- The first i of n bytes of x, then noughts. -/
def bytesAt (x : Int) (n i : Nat) : List Int := (List.range n).map fun j => if j < i then x / 2 ^ (8 * j) % 256 else 0
def bytesM (x : Int) (n : Nat) : ByteArray := strOfNums (bytesAt x n n)
theorem bytesAt_zero (x : Int) (n : Nat) : bytesAt x n 0 = List.replicate n 0 := by
  unfold bytesAt; simp [List.map_const']
theorem bytesAt_len (x : Int) (n i : Nat) : (bytesAt x n i).length = n := by unfold bytesAt; simp
theorem bytesAt_set (x : Int) (n i : Nat) (h : i < n) : (bytesAt x n i).set i (x / 2 ^ (8 * i) % 256) = bytesAt x n (i + 1) := by
  unfold bytesAt
  apply List.ext_getElem
  · simp
  · intro j h1 h2
    simp only [List.length_map, List.length_range] at h2
    rw [List.getElem_set]
    simp only [List.getElem_map, List.getElem_range]
    by_cases e : i = j
    · subst e; rw [if_pos rfl, if_pos (by omega)]
    · rw [if_neg e]
      by_cases f : j < i
      · rw [if_pos f, if_pos (by omega)]
      · rw [if_neg f, if_neg (by omega)]
set_option maxRecDepth 100000 in
set_option maxHeartbeats 4000000 in
theorem bytes_s (x : Int) (n : Nat) (h0 : 0 ≤ x) (hn : n ≤ 8) (w : World) : Calls Try.prog 88 #[.int .u64 x, .int .i64 n] w fun e w' => e = .returned (.string (bytesM x n)) ∧ Below w.heap.size w w' := by
  go_enter Try.func88, Try.ntmps88
  go_wp2_with (first | ((with_reducible refine gate_dst (N := 8) rfl ?_); refine Kd.R_make (Kd.int .u8) _ 5 rfl (N := 8) rfl 77 _ _ rfl (n : Int) rfl rfl Try.underlying77 (.int .u8 0) 1 info_u8 rfl (by decide) (by omega) 0 (ok := fun _ => True) (okp := fun _ => True) rfl (fun _ hk => hk) trivial (by omega) (by rw [Int.toNat_natCast]; omega) (Below.refl _ _) (Nat.le_refl _) ?_; intro v1 w1 hR hb1 hg_ hnew_; clear hg_ hnew_; obtain ⟨Ao, co, eo⟩ := Kd.R_slice hR; subst eo))
  simp only [Int.toNat_natCast, List.length_replicate] at hR
  rw [← bytesAt_zero x n] at hR
  go_loopg [11] n (fun kq v11 w' => ∃ i : Nat, i + kq = n ∧ v11 = .int .i64 i ∧ Aside0 (Kd.R (Kd.int .u8) 5 w' w.heap.size (fun _ => True) (.slice Ao n co) (bytesAt x n i)) ∧ Aside0 (Below w.heap.size w w'))
  case atStart => exact ⟨0, by omega, rfl, ⟨hR⟩, ⟨hb1⟩⟩
  case round =>
    obtain ⟨i, hi, rfl, HR, HB⟩ := hrel
    cases gk with
    | zero =>
      obtain rfl : i = n := by omega
      have hcv := own_string (P := Try.prog) Try.underlying77 Try.underlying5 Try.underlying9 (Kd.own_of_R HR.out)
      have hd : decide ((i : Int) < (i : Int)) = false := decide_eq_false (by omega)
      go_wp2
      go_ret
      exact ⟨rfl, HB.out⟩
    | succ k1 =>
      have hd : decide ((i : Int) < (n : Int)) = true := decide_eq_true (by omega)
      obtain ⟨go1, co1, eo1, gb1, gl1, cl1, HG1⟩ := Kd.R_form HR.out (by rw [bytesAt_len]; omega)
      rw [bytesAt_len] at eo1
      injection eo1 with ea_ en_ ec_
      subst ea_; subst ec_; clear en_
      obtain ⟨hx, hf⟩ := Kd.R_celln 0 HR.out (i : Int) (by omega) (by omega)
      have HP := Kd.R_putg HR.out (i : Int) (x / 2 ^ (8 * i) % 256)
      rw [Int.toNat_natCast] at hx hf HP
      rw [bytesAt_set x n i (by omega)] at HP
      have w1 : IntKind.i64.wrap (8 * (i : Int)) = 8 * (i : Int) := by rw [IntKind.wrap_i64]; omega
      have w2 : IntKind.u64.wrap (8 * (i : Int)) = 8 * (i : Int) := by rw [IntKind.wrap_u64]; omega
      have w3 : shr .u64 x (8 * (i : Int)) = x / 2 ^ (8 * i) := by
        have := Pl.shr_at .u64 x (8 * i) (show 8 * i ≤ 64 by omega)
        rwa [Int.natCast_mul] at this
      have q1 : (0 : Int) ≤ (i : Int) := by omega
      have q2 : (i : Int) < (n : Int) := by omega
      have q3 : (0 : Int) ≤ 8 * (i : Int) := by omega
      go_wp2
      go_roundg k1
      case measure => omega
      case rel => exact ⟨i + 1, by omega, by rw [Int.natCast_add]; rfl, ⟨HP.1⟩, ⟨below_set HB.out gb1⟩⟩
set_option maxRecDepth 100000 in
set_option maxHeartbeats 4000000 in
theorem bytes_i (x : Int) (n : Nat) (h0 : 0 ≤ x) (hn : n ≤ 8) (w : World) : Calls Try.prog 66 #[.int .u64 x, .int .i64 n] w fun e w' => e = .returned (.string (bytesM x n)) ∧ Below w.heap.size w w' := by
  go_enter Try.func66, Try.ntmps66
  go_wp2_with (first | ((with_reducible refine gate_dst (N := 8) rfl ?_); refine Kd.R_make (Kd.int .u8) _ 5 rfl (N := 8) rfl 77 _ _ rfl (n : Int) rfl rfl Try.underlying77 (.int .u8 0) 1 info_u8 rfl (by decide) (by omega) 0 (ok := fun _ => True) (okp := fun _ => True) rfl (fun _ hk => hk) trivial (by omega) (by rw [Int.toNat_natCast]; omega) (Below.refl _ _) (Nat.le_refl _) ?_; intro v1 w1 hR hb1 hg_ hnew_; clear hg_ hnew_; obtain ⟨Ao, co, eo⟩ := Kd.R_slice hR; subst eo))
  simp only [Int.toNat_natCast, List.length_replicate] at hR
  rw [← bytesAt_zero x n] at hR
  go_loopg [11] n (fun kq v11 w' => ∃ i : Nat, i + kq = n ∧ v11 = .int .i64 i ∧ Aside0 (Kd.R (Kd.int .u8) 5 w' w.heap.size (fun _ => True) (.slice Ao n co) (bytesAt x n i)) ∧ Aside0 (Below w.heap.size w w'))
  case atStart => exact ⟨0, by omega, rfl, ⟨hR⟩, ⟨hb1⟩⟩
  case round =>
    obtain ⟨i, hi, rfl, HR, HB⟩ := hrel
    cases gk with
    | zero =>
      obtain rfl : i = n := by omega
      have hcv := own_string (P := Try.prog) Try.underlying77 Try.underlying5 Try.underlying9 (Kd.own_of_R HR.out)
      have hd : decide ((i : Int) < (i : Int)) = false := decide_eq_false (by omega)
      go_wp2
      go_ret
      exact ⟨rfl, HB.out⟩
    | succ k1 =>
      have hd : decide ((i : Int) < (n : Int)) = true := decide_eq_true (by omega)
      obtain ⟨go1, co1, eo1, gb1, gl1, cl1, HG1⟩ := Kd.R_form HR.out (by rw [bytesAt_len]; omega)
      rw [bytesAt_len] at eo1
      injection eo1 with ea_ en_ ec_
      subst ea_; subst ec_; clear en_
      obtain ⟨hx, hf⟩ := Kd.R_celln 0 HR.out (i : Int) (by omega) (by omega)
      have HP := Kd.R_putg HR.out (i : Int) (x / 2 ^ (8 * i) % 256)
      rw [Int.toNat_natCast] at hx hf HP
      rw [bytesAt_set x n i (by omega)] at HP
      have w1 : IntKind.i64.wrap (8 * (i : Int)) = 8 * (i : Int) := by rw [IntKind.wrap_i64]; omega
      have w2 : IntKind.u64.wrap (8 * (i : Int)) = 8 * (i : Int) := by rw [IntKind.wrap_u64]; omega
      have w3 : shr .u64 x (8 * (i : Int)) = x / 2 ^ (8 * i) := by
        have := Pl.shr_at .u64 x (8 * i) (show 8 * i ≤ 64 by omega)
        rwa [Int.natCast_mul] at this
      have q1 : (0 : Int) ≤ (i : Int) := by omega
      have q2 : (i : Int) < (n : Int) := by omega
      have q3 : (0 : Int) ≤ 8 * (i : Int) := by omega
      go_wp2
      go_roundg k1
      case measure => omega
      case rel => exact ⟨i + 1, by omega, by rw [Int.natCast_add]; rfl, ⟨HP.1⟩, ⟨below_set HB.out gb1⟩⟩
end Go.Proofs.Ytfncjcnlndoelaa.OwnBytes
