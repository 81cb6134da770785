/- Memories that are made and that grow: walks of our own, the readers by printed walks, strings.Repeat by the shelf's contract. -/
import Derived.Test.YtfmmmfddpfddoaaOwnBs
import Derived.Test.YtfmmmfddpfddoaaShelf
import Derived.Test.YtfmmmfddpfddoaaPorZerox
import Derived.Test.YtfmmmfddpfddoaaPGoodMemoryx
import Derived.Test.YtfmmmfddpfddoaaPeqMemoryx
import Derived.Test.YtfmmmfddpfddoaaPtoMemoryx
import Derived.Test.YtfmmmfddpfddoaaPszMemoryx
import Derived.Test.YtfmmmfddpfddoaaPNewMemoryx
namespace Go.Proofs.Ytfmmmfddpfddoaa.OwnMem2
open Go Go.RowKit Go.Proofs.YtfmmmfddpfddoaaW.PrintWords Go.Proofs.YtfmmmfddpfddoaaW.PrintLast Go.Proofs.YtfmmmfddpfddoaaW.PrintMore Go.Proofs.Ytfmmmfddpfddoaa.OwnBs
open Go.Proofs.Ytfmmmfddpfddoaa.PGoodMemory Go.Proofs.Ytfmmmfddpfddoaa.PorZero
set_option linter.unusedVariables false
set_option linter.unusedSimpArgs false
theorem l1In_told (a b c : Int) : spec_l1In.f a b c = some (decide (b ≤ a ∧ a ≤ c)) := by
  unfold spec_l1In.f
  by_cases h : b ≤ a <;> simp [h]

/-! ### Good memories -/
def goodM (a : Int) (s : ByteArray) : Bool := decide (0 ≤ a ∧ a ≤ 8 ∧ (s.size : Int) % 256 = 0 ∧ (s.size : Int) ≤ a * 256)
theorem goodM_spec (a : Int) (s : ByteArray) : spec_GoodMemory.f a s = some (goodM a s) := by
  unfold spec_GoodMemory.f goodM
  simp only [l1In_told, Option.bind_some]
  by_cases h1 : 0 ≤ a ∧ a ≤ 8
  · rw [decide_eq_true h1, if_pos rfl, Pl.w64 (by omega) (by omega)]
    by_cases h2 : (s.size : Int) % 256 = 0
    · rw [if_pos h2]; simp only [Option.some.injEq, decide_eq_decide]; omega
    · rw [if_neg h2, decide_eq_false (by omega)]
  · rw [decide_eq_false h1, if_neg (by decide), decide_eq_false (by omega)]
theorem goodM_impl (a : Int) (s : ByteArray) : impl_GoodMemory.f a s = some (goodM a s) := by
  unfold impl_GoodMemory.f goodM
  by_cases h0 : a ≥ 0
  · by_cases h1 : a ≤ 8
    · rw [if_pos h0, if_pos h1, Pl.w64 (by omega) (by omega)]
      by_cases h2 : (s.size : Int) % 256 = 0
      · rw [if_pos h2]; simp only [Option.some.injEq, decide_eq_decide]; omega
      · rw [if_neg h2, decide_eq_false (by omega)]
    · rw [if_pos h0, if_neg h1, decide_eq_false (by omega)]
  · rw [if_neg h0, decide_eq_false (by omega)]

theorem good_s (mx : Int) (d : ByteArray) (w : World) : Calls Try.prog 80 #[.agg #[.int .i64 mx, .string d]] w fun e w' => e = .returned (.bool (goodM mx d)) ∧ Below w.heap.size w w' := spec_GoodMemory.calls _ _ _ w (goodM_spec mx d)
theorem good_i (mx : Int) (d : ByteArray) (w : World) : Calls Try.prog 81 #[.agg #[.int .i64 mx, .string d]] w fun e w' => e = .returned (.bool (goodM mx d)) ∧ Below w.heap.size w w' := impl_GoodMemory.calls _ _ _ w (goodM_impl mx d)
theorem in_l1 (a b c : Int) (w : World) : Calls Try.prog 73 #[.int .i64 a, .int .i64 b, .int .i64 c] w fun e w' => e = .returned (.bool (decide (b ≤ a ∧ a ≤ c))) ∧ Below w.heap.size w w' := (spec_l1In.calls _ _ _ _ w (l1In_told a b c)).mono fun e w' h => ⟨h.1, h.2.below⟩
def orzM (mx : Int) (d : ByteArray) : Int × ByteArray := if goodM mx d then (mx, d) else (0, ⟨#[]⟩)
theorem orz (mx : Int) (d : ByteArray) (w : World) : Calls Try.prog 82 #[.agg #[.int .i64 mx, .string d]] w fun e w' => e = .returned (.agg #[.int .i64 (orzM mx d).1, .string (orzM mx d).2]) ∧ Below w.heap.size w w' := impl_orZero.calls _ _ _ _ w (by
  unfold impl_orZero.f orzM; rw [goodM_impl, Option.bind_some]
  by_cases h : goodM mx d = true
  · rw [if_pos h, if_pos h]
  · rw [if_neg h, if_neg h])
theorem eqm (mx : Int) (d : ByteArray) (w : World) : Calls Try.prog 36 #[.agg #[.int .i64 mx, .string d], .agg #[.int .i64 mx, .string d]] w fun e w' => e = .returned (.bool true) ∧ Below w.heap.size w w' := PeqMemory.laws_eqMemory.calls _ _ _ _ _ w (by
  unfold PeqMemory.laws_eqMemory.f; simp)
theorem tom (mx : Int) (d : ByteArray) (w : World) : Calls Try.prog 41 #[.agg #[.int .i64 mx, .string d]] w fun e w' => e = .returned (.agg #[.int .i64 mx, .string d]) ∧ Below w.heap.size w w' := PtoMemory.laws_toMemory.calls _ _ _ _ w rfl
theorem szm (mx : Int) (d : ByteArray) (n : Int) (w : World) : Calls Try.prog 39 #[.agg #[.int .i64 mx, .string d], .int .i64 n] w fun e w' => e = .returned (.int .i64 (if wrap64 (n - (d.size : Int)) < 0 then -1 else wrap64 (n - (d.size : Int)))) ∧ Below w.heap.size w w' := PszMemory.laws_szMemory.calls _ _ _ _ w (by unfold PszMemory.laws_szMemory.f; split <;> rfl)
theorem goodM_size {mx : Int} {d : ByteArray} (h : goodM mx d = true) : 0 ≤ mx ∧ mx ≤ 8 ∧ d.size ≤ 2048 := by
  unfold goodM at h; simp only [decide_eq_true_eq] at h; omega
/-- A text of noughts. -/
def zeros (n : Nat) : ByteArray := strOfNums (List.replicate n 0)
theorem zeros_size (n : Nat) : (zeros n).size = n := by unfold zeros; rw [Pl.strOfNums_size, List.length_replicate]
theorem zeros_rep (n : Nat) : (⟨(Lib.repeatL (⟨#[0]⟩ : ByteArray).data.toList n).toArray⟩ : ByteArray) = zeros n := by
  unfold zeros strOfNums
  rw [show ((⟨#[0]⟩ : ByteArray).data.toList : List UInt8) = List.replicate 1 0 from rfl, Lib.repeatL_replicate]
  simp
theorem rep (n : Nat) (hn : n ≤ 4096) (w : World) : Calls Try.prog 78 #[.string ⟨#[0]⟩, .int .i64 n] w fun e w' => e = .returned (.string (zeros n)) ∧ Below w.heap.size w w' := by
  have := Try.strings_Repeat ⟨#[0]⟩ n w (by omega) (by show 1 * n ≤ _; omega)
  rwa [zeros_rep] at this
theorem made_zeros (n : Nat) (hn : n ≤ 4096) (X : World) : (convert 80 9 (.slice (some ⟨X.heap.size, 0, none⟩) n n)).run Try.prog (X.alloc (.cells (madeCells #[.int .u8 0] n) 5)) = .ok (.string (zeros n)) (X.alloc (.cells (madeCells #[.int .u8 0] n) 5)) :=
  own_string (P := Try.prog) Try.underlying80 Try.underlying5 Try.underlying9 (own_made X X.heap.size 5 .u8 n (Nat.le_refl _) (by omega))
theorem made_zeros_drew (n : Nat) (hn : n ≤ 4096) (X : World) : (convert 80 9 (.slice (some ⟨X.heap.size, 0, none⟩) n n)).run Try.prog (X.alloc (.cells (madeCells #[.int .u8 0] n) 5)).drew = .ok (.string (zeros n)) (X.alloc (.cells (madeCells #[.int .u8 0] n) 5)).drew :=
  own_string (P := Try.prog) Try.underlying80 Try.underlying5 Try.underlying9 (own_drew (own_made X X.heap.size 5 .u8 n (Nat.le_refl _) (by omega)))
/-! ### GrowMemory, the reference's -/
def growM (mx : Int) (d : ByteArray) (by_ : Int) : Int × ByteArray × Int × Bool := if goodM mx d = true then (if 0 ≤ by_ ∧ by_ ≤ 8 then (if (d.size : Int) / 256 + by_ > mx then (mx, d, -1, true) else (mx, d ++ zeros (by_ * 256).toNat, (d.size : Int) / 256, true)) else (mx, d, 0, false)) else (0, ⟨#[]⟩, 0, false)
set_option maxRecDepth 100000 in
set_option maxHeartbeats 4000000 in
theorem grow_last (mx : Int) (d : ByteArray) (b : Nat) (w : World) (g : goodM mx d = true) (h1 : b ≤ 8) (h2 : (d.size : Int) / 256 + b ≤ mx) : Calls Try.prog 40 #[.agg #[.int .i64 mx, .string d], .int .i64 b] w fun e w' => e = .returned (.tuple #[.agg #[.int .i64 mx, .string (d ++ zeros (b * 256))], .int .i64 ((d.size : Int) / 256), .bool true]) ∧ Below w.heap.size w w' := by
  have cg := fun w => good_s mx d w
  have ci := fun w => in_l1 b 0 8 w
  obtain ⟨m0, m1, m2⟩ := goodM_size g
  rw [g] at cg
  rw [decide_eq_true (show (0 : Int) ≤ (b : Int) ∧ (b : Int) ≤ 8 by omega)] at ci
  clear g
  have hz := zeros_size (b * 256)
  have z1 : (9223372036854775807 < d.size + (zeros (b * 256)).size) = False := eq_false (by omega)
  have hmk : ∀ W : World, (Instr.makeSlice 80 (.int .i64 ((b : Int) * 256)) (.int .i64 ((b : Int) * 256))).run Try.prog W = .ok (.slice (some ⟨W.heap.size, 0, none⟩) (b * 256) (b * 256)) (W.alloc (.cells (madeCells #[.int .u8 0] (b * 256)) 5)) := print_make (P := Try.prog) 80 5 .u8 1 Try.underlying80 info_u8 (by decide) (b * 256) (by omega)
  have hcv := made_zeros (b * 256) (by omega)
  have hcw := made_zeros_drew (b * 256) (by omega)
  clear hz
  generalize zeros (b * 256) = Z at *
  go_enter Try.func40, Try.ntmps40
  go_wp2_with (first
    | (go_at_call 73; (with_reducible refine (ci _).mono ?_); rintro e w2 ⟨rfl, hb2⟩; obtain ⟨hc2, hf2⟩ := bcell hb2; have hz2 : w1.heap.size < w2.heap.size + 1 := (by have := hb2.size; omega); have hz20 : w.heap.size < w2.heap.size := (by omega))
    | (go_at_call 80; (with_reducible refine (cg _).mono ?_); rintro e w1 ⟨rfl, hb1⟩; obtain ⟨hc1, hf1⟩ := bcell hb1; have hz1 : w.heap.size < w1.heap.size := (by have := hb1.size; simp at this; omega)))
  have q0 : w1.heap.size = w1.heap.size := rfl
  have k0 : w2.cell? ⟨w.heap.size, 0, none⟩ = some (.int .i64 mx) := by rw [hc2 _ _ (by omega), hc1 _ _ (by simp; omega)]; go_simp
  have k1 : w2.cell? ⟨w.heap.size, 1, none⟩ = some (.string d) := by rw [hc2 _ _ (by omega), hc1 _ _ (by simp; omega)]; go_simp
  have f1 : w2.frozen? ⟨w.heap.size, 1, none⟩ = false := by rw [hf2 _ _ (by omega), hf1 _ _ (by simp; omega)]; go_simp
  have B : Below w.heap.size w w2 := below_step (below_step (below_alloc (below_alloc (Below.refl _ _) _) _) hb1) hb2
  have f0 : w2.frozen? ⟨w.heap.size, 0, none⟩ = false := by rw [hf2 _ _ (by omega), hf1 _ _ (by simp; omega)]; go_simp
  have k2 : w2.cell? ⟨w.heap.size + 1, 0, none⟩ = some (.int .i64 0) := by rw [hc2 _ _ (by have := hb1.size; simp at this; omega), hc1 _ _ (by simp)]; go_simp
  have k3 : w2.cell? ⟨w.heap.size + 1, 1, none⟩ = some (.string ⟨#[]⟩) := by rw [hc2 _ _ (by have := hb1.size; simp at this; omega), hc1 _ _ (by simp)]; go_simp
  have f2 : w2.frozen? ⟨w.heap.size + 1, 0, none⟩ = false := by rw [hf2 _ _ (by have := hb1.size; simp at this; omega), hf1 _ _ (by simp)]; go_simp
  have f3 : w2.frozen? ⟨w.heap.size + 1, 1, none⟩ = false := by rw [hf2 _ _ (by have := hb1.size; simp at this; omega), hf1 _ _ (by simp)]; go_simp
  have hz : w.heap.size + 1 < w2.heap.size := by have := hb1.size; have := hb2.size; simp at *; omega
  clear hc1 hf1 hc2 hf2 hb1 hb2 cg ci q0
  go_region
  rename_i kk
  simp only [Exit.then]
  refine kk _ _ ?_
  go_wp2
  refine bodyPost_ret (v := .tuple #[.agg #[.int .i64 mx, .string (d ++ Z)], .int .i64 ((d.size : Int) / 256), .bool true]) (by simp [results, Try.results40, go_sem, hz, k0, k1, k2, k3]) rfl ⟨rfl, ?_⟩
  with_reducible exact below_drew1 (below_alloc (below_set (below_set (below_set B (Nat.le_refl _)) (Nat.le_succ _)) (Nat.le_succ _)) _)
def growV (r : Int × ByteArray × Int × Bool) : Value := .tuple #[.agg #[.int .i64 r.1, .string r.2.1], .int .i64 r.2.2.1, .bool r.2.2.2]
set_option maxRecDepth 100000 in
set_option maxHeartbeats 4000000 in
theorem grow_s (mx : Int) (d : ByteArray) (b : Int) (w : World) : Calls Try.prog 40 #[.agg #[.int .i64 mx, .string d], .int .i64 b] w fun e w' => e = .returned (growV (growM mx d b)) ∧ Below w.heap.size w w' := by
  have cg := fun w => good_s mx d w
  have ci := fun w => in_l1 b 0 8 w
  unfold growM growV
  by_cases g : goodM mx d = true
  · rw [if_pos g]
    by_cases h : 0 ≤ b ∧ b ≤ 8
    · rw [if_pos h]
      by_cases h2 : (d.size : Int) / 256 + b > mx
      · rw [if_pos h2]
        obtain ⟨m0, m1, m2⟩ := goodM_size g
        rw [g] at cg
        rw [decide_eq_true h] at ci
        obtain ⟨h3, h4⟩ := h
        clear g
        go_enter Try.func40, Try.ntmps40
        go_wp2_with (first
          | (go_at_call 73; (fail_if_success (have _ := hb2)); have _ := hb1; (with_reducible refine (ci _).mono ?_); rintro e w2 ⟨rfl, hb2⟩; obtain ⟨hc2, hf2⟩ := bcell hb2; have hz2_0_0 : w.heap.size < w2.heap.size := (by have := hb2.size; first | omega | (simp at this; omega)); have hz2_0_1 : w.heap.size + 1 < w2.heap.size := (by have := hb2.size; first | omega | (simp at this; omega)))
          | (go_at_call 80; (fail_if_success (have _ := hb1)); (with_reducible refine (cg _).mono ?_); rintro e w1 ⟨rfl, hb1⟩; obtain ⟨hc1, hf1⟩ := bcell hb1; have hz1_0_0 : w.heap.size < w1.heap.size := (by have := hb1.size; first | omega | (simp at this; omega)); have hz1_0_1 : w.heap.size + 1 < w1.heap.size := (by have := hb1.size; first | omega | (simp at this; omega))))
        refine bodyPost_ret (v := .tuple #[.agg #[.int .i64 mx, .string d], .int .i64 (-1), .bool true]) (by simp [results, Try.results40, go_sem, hc1, hf1, hz1_0_0, hz1_0_1, hc2, hf2, hz2_0_0, hz2_0_1]) rfl ⟨rfl, ?_⟩
        repeat (first | (with_reducible exact Below.refl _ _) | (with_reducible refine below_alloc ?_ _) | (with_reducible refine below_drew1 ?_) | (with_reducible refine pw_below_drewN ?_ _) | (with_reducible refine below_set ?_ (by omega)) | (with_reducible refine below_step ?_ hb2) | (with_reducible refine below_step ?_ hb1))
      · rw [if_neg h2]
        obtain ⟨n, rfl⟩ : ∃ n : Nat, b = n := ⟨b.toNat, by omega⟩
        have := grow_last mx d n w g (by omega) (by omega)
        rw [show ((n : Int) * 256).toNat = n * 256 by omega]
        exact this
    · rw [if_neg h]
      obtain ⟨m0, m1, m2⟩ := goodM_size g
      rw [g] at cg
      rw [decide_eq_false h] at ci
      clear g h
      go_enter Try.func40, Try.ntmps40
      go_wp2_with (first
        | (go_at_call 73; (fail_if_success (have _ := hb2)); have _ := hb1; (with_reducible refine (ci _).mono ?_); rintro e w2 ⟨rfl, hb2⟩; obtain ⟨hc2, hf2⟩ := bcell hb2; have hz2_0_0 : w.heap.size < w2.heap.size := (by have := hb2.size; first | omega | (simp at this; omega)); have hz2_0_1 : w.heap.size + 1 < w2.heap.size := (by have := hb2.size; first | omega | (simp at this; omega)))
        | (go_at_call 80; (fail_if_success (have _ := hb1)); (with_reducible refine (cg _).mono ?_); rintro e w1 ⟨rfl, hb1⟩; obtain ⟨hc1, hf1⟩ := bcell hb1; have hz1_0_0 : w.heap.size < w1.heap.size := (by have := hb1.size; first | omega | (simp at this; omega)); have hz1_0_1 : w.heap.size + 1 < w1.heap.size := (by have := hb1.size; first | omega | (simp at this; omega))))
      refine bodyPost_ret (v := .tuple #[.agg #[.int .i64 mx, .string d], .int .i64 0, .bool false]) (by simp [results, Try.results40, go_sem, hc1, hf1, hz1_0_0, hz1_0_1, hc2, hf2, hz2_0_0, hz2_0_1]) rfl ⟨rfl, ?_⟩
      repeat (first | (with_reducible exact Below.refl _ _) | (with_reducible refine below_alloc ?_ _) | (with_reducible refine below_drew1 ?_) | (with_reducible refine pw_below_drewN ?_ _) | (with_reducible refine below_set ?_ (by omega)) | (with_reducible refine below_step ?_ hb2) | (with_reducible refine below_step ?_ hb1))
  · rw [if_neg g]
    rw [Bool.not_eq_true] at g
    rw [g] at cg
    clear g ci
    go_enter Try.func40, Try.ntmps40
    go_wp2_with (first
      | (go_at_call 80; (fail_if_success (have _ := hb1)); (with_reducible refine (cg _).mono ?_); rintro e w1 ⟨rfl, hb1⟩; obtain ⟨hc1, hf1⟩ := bcell hb1; have hz1_0_0 : w.heap.size < w1.heap.size := (by have := hb1.size; first | omega | (simp at this; omega)); have hz1_0_1 : w.heap.size + 1 < w1.heap.size := (by have := hb1.size; first | omega | (simp at this; omega))))
    refine bodyPost_ret (v := .tuple #[.agg #[.int .i64 0, .string ⟨#[]⟩], .int .i64 0, .bool false]) (by simp [results, Try.results40, go_sem, hc1, hf1, hz1_0_0, hz1_0_1]) rfl ⟨rfl, ?_⟩
    repeat (first | (with_reducible exact Below.refl _ _) | (with_reducible refine below_alloc ?_ _) | (with_reducible refine below_drew1 ?_) | (with_reducible refine pw_below_drewN ?_ _) | (with_reducible refine below_set ?_ (by omega)) | (with_reducible refine below_step ?_ hb1))
set_option maxRecDepth 100000 in
set_option maxHeartbeats 4000000 in
theorem grow_i (mx : Int) (d : ByteArray) (b : Int) (w : World) : Calls Try.prog 42 #[.agg #[.int .i64 mx, .string d], .int .i64 b] w fun e w' => e = .returned (growV (growM mx d b)) ∧ Below w.heap.size w w' := by
  have cg := fun w => good_i mx d w
  have co := fun w => orz mx d w
  unfold growM growV
  unfold orzM at co
  by_cases g : goodM mx d = true
  · rw [if_pos g]
    simp only [if_pos g] at co
    obtain ⟨m0, m1, m2⟩ := goodM_size g
    rw [g] at cg
    clear g
    by_cases h0 : b < 0
    · rw [if_neg (by omega)]
      go_enter Try.func42, Try.ntmps42
      go_wp2_with (first
        | (go_at_call 82; (fail_if_success (have _ := hb2)); have _ := hb1; (with_reducible refine (co _).mono ?_); rintro e w2 ⟨rfl, hb2⟩; obtain ⟨hc2, hf2⟩ := bcell hb2; have hz2_0_0 : w.heap.size < w2.heap.size := (by have := hb2.size; first | omega | (simp at this; omega)); have hz2_0_1 : w.heap.size + 1 < w2.heap.size := (by have := hb2.size; first | omega | (simp at this; omega)))
        | (go_at_call 81; (fail_if_success (have _ := hb1)); (with_reducible refine (cg _).mono ?_); rintro e w1 ⟨rfl, hb1⟩; obtain ⟨hc1, hf1⟩ := bcell hb1; have hz1_0_0 : w.heap.size < w1.heap.size := (by have := hb1.size; first | omega | (simp at this; omega)); have hz1_0_1 : w.heap.size + 1 < w1.heap.size := (by have := hb1.size; first | omega | (simp at this; omega))))
      refine bodyPost_ret (v := .tuple #[.agg #[.int .i64 mx, .string d], .int .i64 0, .bool false]) (by simp [results, Try.results42, go_sem, hc1, hf1, hz1_0_0, hz1_0_1, hc2, hf2, hz2_0_0, hz2_0_1]) rfl ⟨rfl, ?_⟩
      repeat (first | (with_reducible exact Below.refl _ _) | (with_reducible refine below_alloc ?_ _) | (with_reducible refine below_drew1 ?_) | (with_reducible refine pw_below_drewN ?_ _) | (with_reducible refine below_set ?_ (by omega)) | (with_reducible refine below_step ?_ hb2) | (with_reducible refine below_step ?_ hb1))
    · by_cases h1 : 8 < b
      · rw [if_neg (by omega)]
        go_enter Try.func42, Try.ntmps42
        go_wp2_with (first
          | (go_at_call 82; (fail_if_success (have _ := hb2)); have _ := hb1; (with_reducible refine (co _).mono ?_); rintro e w2 ⟨rfl, hb2⟩; obtain ⟨hc2, hf2⟩ := bcell hb2; have hz2_0_0 : w.heap.size < w2.heap.size := (by have := hb2.size; first | omega | (simp at this; omega)); have hz2_0_1 : w.heap.size + 1 < w2.heap.size := (by have := hb2.size; first | omega | (simp at this; omega)))
          | (go_at_call 81; (fail_if_success (have _ := hb1)); (with_reducible refine (cg _).mono ?_); rintro e w1 ⟨rfl, hb1⟩; obtain ⟨hc1, hf1⟩ := bcell hb1; have hz1_0_0 : w.heap.size < w1.heap.size := (by have := hb1.size; first | omega | (simp at this; omega)); have hz1_0_1 : w.heap.size + 1 < w1.heap.size := (by have := hb1.size; first | omega | (simp at this; omega))))
        refine bodyPost_ret (v := .tuple #[.agg #[.int .i64 mx, .string d], .int .i64 0, .bool false]) (by simp [results, Try.results42, go_sem, hc1, hf1, hz1_0_0, hz1_0_1, hc2, hf2, hz2_0_0, hz2_0_1]) rfl ⟨rfl, ?_⟩
        repeat (first | (with_reducible exact Below.refl _ _) | (with_reducible refine below_alloc ?_ _) | (with_reducible refine below_drew1 ?_) | (with_reducible refine pw_below_drewN ?_ _) | (with_reducible refine below_set ?_ (by omega)) | (with_reducible refine below_step ?_ hb2) | (with_reducible refine below_step ?_ hb1))
      · rw [if_pos (by omega)]
        by_cases h2 : (d.size : Int) / 256 + b > mx
        · rw [if_pos h2]
          go_enter Try.func42, Try.ntmps42
          go_wp2_with (first
            | (go_at_call 81; (fail_if_success (have _ := hb1)); (with_reducible refine (cg _).mono ?_); rintro e w1 ⟨rfl, hb1⟩; obtain ⟨hc1, hf1⟩ := bcell hb1; have hz1_0_0 : w.heap.size < w1.heap.size := (by have := hb1.size; first | omega | (simp at this; omega)); have hz1_0_1 : w.heap.size + 1 < w1.heap.size := (by have := hb1.size; first | omega | (simp at this; omega))))
          refine bodyPost_ret (v := .tuple #[.agg #[.int .i64 mx, .string d], .int .i64 (-1), .bool true]) (by simp [results, Try.results42, go_sem, hc1, hf1, hz1_0_0, hz1_0_1]) rfl ⟨rfl, ?_⟩
          repeat (first | (with_reducible exact Below.refl _ _) | (with_reducible refine below_alloc ?_ _) | (with_reducible refine below_drew1 ?_) | (with_reducible refine pw_below_drewN ?_ _) | (with_reducible refine below_set ?_ (by omega)) | (with_reducible refine below_step ?_ hb1))
        · rw [if_neg h2]
          obtain ⟨n, rfl⟩ : ∃ n : Nat, b = n := ⟨b.toNat, by omega⟩
          rw [show ((n : Int) * 256).toNat = n * 256 by omega]
          have cr := fun w => rep (n * 256) (by omega) w
          have hz := zeros_size (n * 256)
          have z1 : (9223372036854775807 < d.size + (zeros (n * 256)).size) = False := eq_false (by omega)
          have ew : ((n * 256 : Nat) : Int) = (n : Int) * 256 := by omega
          rw [ew] at cr
          clear hz co ew
          generalize zeros (n * 256) = Z at *

          go_enter Try.func42, Try.ntmps42
          go_wp2_with (first
            | (go_at_call 81; (fail_if_success (have _ := hb1)); (with_reducible refine (cg _).mono ?_); rintro e w1 ⟨rfl, hb1⟩; obtain ⟨hc1, hf1⟩ := bcell hb1; have hz1_0_0 : w.heap.size < w1.heap.size := (by have := hb1.size; first | omega | (simp at this; omega)); have hz1_0_1 : w.heap.size + 1 < w1.heap.size := (by have := hb1.size; first | omega | (simp at this; omega))))
          have ew2 : IntKind.i64.wrap ((n : Int) * 256) = (n : Int) * 256 := by rw [IntKind.wrap_i64]; omega
          go_region_with (first
            | (go_at_call 78; (fail_if_success (have _ := hb2)); (with_reducible refine (cr _).mono ?_); rintro e w2 ⟨rfl, hb2⟩; have hc2 : ∀ b o, b < w1.heap.size → w2.cell? ⟨b, o, none⟩ = w1.cell? ⟨b, o, none⟩ := (bcell hb2).1; have hf2 : ∀ b o, b < w1.heap.size → w2.frozen? ⟨b, o, none⟩ = w1.frozen? ⟨b, o, none⟩ := (bcell hb2).2; have hz2_0_0 : w.heap.size < w2.heap.size := (by have := hb2.size; first | omega | (simp at this; omega)); have hz2_0_1 : w.heap.size + 1 < w2.heap.size := (by have := hb2.size; first | omega | (simp at this; omega))))
          all_goals
            simp only [Exit.then]
            first | (rename_i kk; refine kk _ _ ?_) | (rename_i kk _; refine kk _ _ ?_) | (rename_i kk _ _; refine kk _ _ ?_) | (rename_i kk _ _ _; refine kk _ _ ?_) | (rename_i kk _ _ _ _; refine kk _ _ ?_)
            go_wp2
            refine bodyPost_ret (v := .tuple #[.agg #[.int .i64 mx, .string (d ++ Z)], .int .i64 ((d.size : Int) / 256), .bool true]) (by simp [results, Try.results42, go_sem, hc1, hf1, hz1_0_0, hz1_0_1, hc2, hf2, hz2_0_0, hz2_0_1]) rfl ⟨rfl, ?_⟩
            repeat (first | (with_reducible exact Below.refl _ _) | (with_reducible refine below_alloc ?_ _) | (with_reducible refine below_drew1 ?_) | (with_reducible refine pw_below_drewN ?_ _) | (with_reducible refine below_set ?_ (by omega)) | (with_reducible refine below_step ?_ hb2) | (with_reducible refine below_step ?_ hb1))
  · rw [if_neg g]
    simp only [if_neg g] at co
    rw [Bool.not_eq_true] at g
    rw [g] at cg
    clear g
    go_enter Try.func42, Try.ntmps42
    go_wp2_with (first
      | (go_at_call 82; (fail_if_success (have _ := hb2)); have _ := hb1; (with_reducible refine (co _).mono ?_); rintro e w2 ⟨rfl, hb2⟩; obtain ⟨hc2, hf2⟩ := bcell hb2; have hz2_0_0 : w.heap.size < w2.heap.size := (by have := hb2.size; first | omega | (simp at this; omega)); have hz2_0_1 : w.heap.size + 1 < w2.heap.size := (by have := hb2.size; first | omega | (simp at this; omega)))
      | (go_at_call 81; (fail_if_success (have _ := hb1)); (with_reducible refine (cg _).mono ?_); rintro e w1 ⟨rfl, hb1⟩; obtain ⟨hc1, hf1⟩ := bcell hb1; have hz1_0_0 : w.heap.size < w1.heap.size := (by have := hb1.size; first | omega | (simp at this; omega)); have hz1_0_1 : w.heap.size + 1 < w1.heap.size := (by have := hb1.size; first | omega | (simp at this; omega))))
    refine bodyPost_ret (v := .tuple #[.agg #[.int .i64 0, .string ⟨#[]⟩], .int .i64 0, .bool false]) (by simp [results, Try.results42, go_sem, hc1, hf1, hz1_0_0, hz1_0_1, hc2, hf2, hz2_0_0, hz2_0_1]) rfl ⟨rfl, ?_⟩
    repeat (first | (with_reducible exact Below.refl _ _) | (with_reducible refine below_alloc ?_ _) | (with_reducible refine below_drew1 ?_) | (with_reducible refine pw_below_drewN ?_ _) | (with_reducible refine below_set ?_ (by omega)) | (with_reducible refine below_step ?_ hb2) | (with_reducible refine below_step ?_ hb1))
set_option maxRecDepth 100000 in
set_option maxHeartbeats 4000000 in
theorem law_GrowMemory (mx : Int) (d : ByteArray) (b : Int) (w : World) : Calls Try.prog 12 #[.agg #[.int .i64 mx, .string d], .int .i64 b] w fun e w' => e = .returned (.bool true) ∧ Below w.heap.size w w' := by
  have cz := fun w => szm mx d 1048576 w
  by_cases z : wrap64 (1048576 - (d.size : Int)) < 0
  · simp only [if_pos z] at cz
    go_enter Try.func12, Try.ntmps12
    go_wp2_with (first
      | (go_at_call 39; (fail_if_success (have _ := hb1)); (with_reducible refine (cz _).mono ?_); rintro e w1 ⟨rfl, hb1⟩; obtain ⟨hc1, hf1⟩ := bcell hb1; have hz1_0_0 : w.heap.size < w1.heap.size := (by have := hb1.size; first | omega | (simp at this; omega))))
    refine bodyPost_ret (v := .bool true) (by simp [results, Try.results12, go_sem, hc1, hf1, hz1_0_0]) rfl ⟨rfl, ?_⟩
    repeat (first | (with_reducible exact Below.refl _ _) | (with_reducible refine below_alloc ?_ _) | (with_reducible refine below_drew1 ?_) | (with_reducible refine pw_below_drewN ?_ _) | (with_reducible refine below_set ?_ (by omega)) | (with_reducible refine below_step ?_ hb1))
  · simp only [if_neg z] at cz
    generalize wrap64 (1048576 - (d.size : Int)) = q at *
    have cs := fun w => grow_s mx d b w
    have ci := fun w => grow_i mx d b w
    generalize growM mx d b = r at *
    obtain ⟨x, y, c, k⟩ := r
    simp only [growV] at cs ci
    go_enter Try.func12, Try.ntmps12
    go_wp2_with (first
      | (go_at_call 36; (fail_if_success (have _ := hb6)); have _ := hb5; (with_reducible refine (eqm x y _).mono ?_); rintro e w6 ⟨rfl, hb6⟩; obtain ⟨hc6, hf6⟩ := bcell hb6; have hz6_0_0 : w.heap.size < w6.heap.size := (by have := hb6.size; first | omega | (simp at this; omega)); have hz6_3_0 : w3.heap.size < w6.heap.size := (by have := hb6.size; first | omega | (simp at this; omega)); have hz6_5_0 : w5.heap.size < w6.heap.size := (by have := hb6.size; first | omega | (simp at this; omega)))
      | (go_at_call 42; (fail_if_success (have _ := hb5)); have _ := hb4; (with_reducible refine (ci _).mono ?_); rintro e w5 ⟨rfl, hb5⟩; obtain ⟨hc5, hf5⟩ := bcell hb5; have hz5_0_0 : w.heap.size < w5.heap.size := (by have := hb5.size; first | omega | (simp at this; omega)); have hz5_3_0 : w3.heap.size < w5.heap.size := (by have := hb5.size; first | omega | (simp at this; omega)))
      | (go_at_call 41; (fail_if_success (have _ := hb4)); have _ := hb3; (with_reducible refine (tom mx d _).mono ?_); rintro e w4 ⟨rfl, hb4⟩; obtain ⟨hc4, hf4⟩ := bcell hb4; have hz4_0_0 : w.heap.size < w4.heap.size := (by have := hb4.size; first | omega | (simp at this; omega)); have hz4_3_0 : w3.heap.size < w4.heap.size := (by have := hb4.size; first | omega | (simp at this; omega)))
      | (go_at_call 40; (fail_if_success (have _ := hb3)); have _ := hb2; (with_reducible refine (cs _).mono ?_); rintro e w3 ⟨rfl, hb3⟩; obtain ⟨hc3, hf3⟩ := bcell hb3; have hz3_0_0 : w.heap.size < w3.heap.size := (by have := hb3.size; first | omega | (simp at this; omega)))
      | (go_at_call 41; (fail_if_success (have _ := hb2)); have _ := hb1; (with_reducible refine (tom mx d _).mono ?_); rintro e w2 ⟨rfl, hb2⟩; obtain ⟨hc2, hf2⟩ := bcell hb2; have hz2_0_0 : w.heap.size < w2.heap.size := (by have := hb2.size; first | omega | (simp at this; omega)))
      | (go_at_call 39; (fail_if_success (have _ := hb1)); (with_reducible refine (cz _).mono ?_); rintro e w1 ⟨rfl, hb1⟩; obtain ⟨hc1, hf1⟩ := bcell hb1; have hz1_0_0 : w.heap.size < w1.heap.size := (by have := hb1.size; first | omega | (simp at this; omega))))
    refine bodyPost_ret (v := .bool true) (by simp [results, Try.results12, go_sem, hc1, hf1, hz1_0_0, hc2, hf2, hz2_0_0, hc3, hf3, hz3_0_0, hc4, hf4, hz4_0_0, hz4_3_0, hc5, hf5, hz5_0_0, hz5_3_0, hc6, hf6, hz6_0_0, hz6_3_0, hz6_5_0]) rfl ⟨rfl, ?_⟩
    repeat (first | (with_reducible exact Below.refl _ _) | (with_reducible refine below_alloc ?_ _) | (with_reducible refine below_drew1 ?_) | (with_reducible refine pw_below_drewN ?_ _) | (with_reducible refine below_set ?_ (by omega)) | (with_reducible refine below_step ?_ hb6) | (with_reducible refine below_step ?_ hb5) | (with_reducible refine below_step ?_ hb4) | (with_reducible refine below_step ?_ hb3) | (with_reducible refine below_step ?_ hb2) | (with_reducible refine below_step ?_ hb1))
def newM (p mx : Int) : Int × ByteArray × Bool := if 0 ≤ mx ∧ mx ≤ 8 ∧ 0 ≤ p ∧ p ≤ mx then (mx, zeros (p * 256).toNat, true) else (0, ⟨#[]⟩, false)
theorem new_s (p mx : Int) (w : World) : Calls Try.prog 34 #[.int .i64 p, .int .i64 mx] w fun e w' => e = .returned (.tuple #[.agg #[.int .i64 (newM p mx).1, .string (newM p mx).2.1], .bool (newM p mx).2.2]) ∧ Below w.heap.size w w' := PNewMemory.spec_NewMemory.calls _ _ _ _ _ w (by
  have l1 : ∀ a b c, PNewMemory.spec_l1In.f a b c = some (decide (b ≤ a ∧ a ≤ c)) := by
    intro a b c
    unfold PNewMemory.spec_l1In.f
    by_cases h : b ≤ a <;> simp [h]
  unfold PNewMemory.spec_NewMemory.f newM
  simp only [l1, Option.bind_some]
  by_cases h1 : 0 ≤ mx ∧ mx ≤ 8
  · by_cases h2 : 0 ≤ p ∧ p ≤ mx
    · rw [decide_eq_true h1, if_pos rfl, decide_eq_true h2, if_pos rfl, Pl.w64 (by omega) (by omega), if_pos (by omega), if_pos (by omega), if_pos ⟨h1.1, h1.2, h2.1, h2.2⟩]
      rfl
    · rw [decide_eq_true h1, if_pos rfl, decide_eq_false h2, if_neg (by decide), if_neg (fun h => h2 ⟨h.2.2.1, h.2.2.2⟩)]
  · rw [decide_eq_false h1, if_neg (by decide), if_neg (fun h => h1 ⟨h.1, h.2.1⟩)])
set_option maxRecDepth 100000 in
set_option maxHeartbeats 4000000 in
theorem new_i (p mx : Int) (w : World) : Calls Try.prog 35 #[.int .i64 p, .int .i64 mx] w fun e w' => e = .returned (.tuple #[.agg #[.int .i64 (newM p mx).1, .string (newM p mx).2.1], .bool (newM p mx).2.2]) ∧ Below w.heap.size w w' := by
  unfold newM
  by_cases h : 0 ≤ mx ∧ mx ≤ 8 ∧ 0 ≤ p ∧ p ≤ mx
  · rw [if_pos h]
    obtain ⟨h0, h1, h2, h3⟩ := h
    obtain ⟨n, rfl⟩ : ∃ n : Nat, p = n := ⟨p.toNat, by omega⟩
    rw [show ((n : Int) * 256).toNat = n * 256 by omega]
    have cr := fun w => rep (n * 256) (by omega) w
    have ew : ((n * 256 : Nat) : Int) = (n : Int) * 256 := by omega
    rw [ew] at cr
    clear ew
    generalize zeros (n * 256) = Z at *
    go_enter Try.func35, Try.ntmps35
    go_wp2_with (first
      | (go_at_call 78; (fail_if_success (have _ := hb1)); (with_reducible refine (cr _).mono ?_); rintro e w1 ⟨rfl, hb1⟩; obtain ⟨hc1, hf1⟩ := bcell hb1; have hz1_0_0 : w.heap.size < w1.heap.size := (by have := hb1.size; first | omega | (simp at this; omega))))
    refine bodyPost_ret (v := .tuple #[.agg #[.int .i64 mx, .string Z], .bool true]) (by simp [results, Try.results35, go_sem, hc1, hf1, hz1_0_0]) rfl ⟨rfl, ?_⟩
    repeat (first | (with_reducible exact Below.refl _ _) | (with_reducible refine below_alloc ?_ _) | (with_reducible refine below_drew1 ?_) | (with_reducible refine pw_below_drewN ?_ _) | (with_reducible refine below_set ?_ (by omega)) | (with_reducible refine below_step ?_ hb1))
  · rw [if_neg h]
    by_cases h0 : mx < 0
    · skip
      go_enter Try.func35, Try.ntmps35
      go_wp2
      refine bodyPost_ret (v := .tuple #[.agg #[.int .i64 0, .string ⟨#[]⟩], .bool false]) (by simp [results, Try.results35, go_sem]) rfl ⟨rfl, ?_⟩
      repeat (first | (with_reducible exact Below.refl _ _) | (with_reducible refine below_alloc ?_ _) | (with_reducible refine below_drew1 ?_) | (with_reducible refine pw_below_drewN ?_ _) | (with_reducible refine below_set ?_ (by omega)))
    by_cases h1 : 8 < mx
    · skip
      go_enter Try.func35, Try.ntmps35
      go_wp2
      refine bodyPost_ret (v := .tuple #[.agg #[.int .i64 0, .string ⟨#[]⟩], .bool false]) (by simp [results, Try.results35, go_sem]) rfl ⟨rfl, ?_⟩
      repeat (first | (with_reducible exact Below.refl _ _) | (with_reducible refine below_alloc ?_ _) | (with_reducible refine below_drew1 ?_) | (with_reducible refine pw_below_drewN ?_ _) | (with_reducible refine below_set ?_ (by omega)))
    by_cases h2 : p < 0
    · skip
      go_enter Try.func35, Try.ntmps35
      go_wp2
      refine bodyPost_ret (v := .tuple #[.agg #[.int .i64 0, .string ⟨#[]⟩], .bool false]) (by simp [results, Try.results35, go_sem]) rfl ⟨rfl, ?_⟩
      repeat (first | (with_reducible exact Below.refl _ _) | (with_reducible refine below_alloc ?_ _) | (with_reducible refine below_drew1 ?_) | (with_reducible refine pw_below_drewN ?_ _) | (with_reducible refine below_set ?_ (by omega)))
    have h3 : mx < p := by omega
    go_enter Try.func35, Try.ntmps35
    go_wp2
    refine bodyPost_ret (v := .tuple #[.agg #[.int .i64 0, .string ⟨#[]⟩], .bool false]) (by simp [results, Try.results35, go_sem]) rfl ⟨rfl, ?_⟩
    repeat (first | (with_reducible exact Below.refl _ _) | (with_reducible refine below_alloc ?_ _) | (with_reducible refine below_drew1 ?_) | (with_reducible refine pw_below_drewN ?_ _) | (with_reducible refine below_set ?_ (by omega)))

set_option maxRecDepth 100000 in
set_option maxHeartbeats 4000000 in
theorem law_NewMemory (p mx : Int) (w : World) : Calls Try.prog 10 #[.int .i64 p, .int .i64 mx] w fun e w' => e = .returned (.bool true) ∧ Below w.heap.size w w' := by
  have cs := fun w => new_s p mx w
  have ci := fun w => new_i p mx w
  generalize newM p mx = r at *
  obtain ⟨x, y, c⟩ := r
  simp only at cs ci
  go_enter Try.func10, Try.ntmps10
  go_wp2_with (first
    | (go_at_call 36; (fail_if_success (have _ := hb3)); have _ := hb2; (with_reducible refine (eqm x y _).mono ?_); rintro e w3 ⟨rfl, hb3⟩; obtain ⟨hc3, hf3⟩ := bcell hb3; have hz3_1_0 : w1.heap.size < w3.heap.size := (by have := hb3.size; first | omega | (simp at this; omega)); have hz3_2_0 : w2.heap.size < w3.heap.size := (by have := hb3.size; first | omega | (simp at this; omega)))
    | (go_at_call 35; (fail_if_success (have _ := hb2)); have _ := hb1; (with_reducible refine (ci _).mono ?_); rintro e w2 ⟨rfl, hb2⟩; obtain ⟨hc2, hf2⟩ := bcell hb2; have hz2_1_0 : w1.heap.size < w2.heap.size := (by have := hb2.size; first | omega | (simp at this; omega)))
    | (go_at_call 34; (fail_if_success (have _ := hb1)); (with_reducible refine (cs _).mono ?_); rintro e w1 ⟨rfl, hb1⟩; obtain ⟨hc1, hf1⟩ := bcell hb1))
  refine bodyPost_ret (v := .bool true) (by simp [results, Try.results10, go_sem, hc1, hf1, hc2, hf2, hz2_1_0, hc3, hf3, hz3_1_0, hz3_2_0]) rfl ⟨rfl, ?_⟩
  repeat (first | (with_reducible exact Below.refl _ _) | (with_reducible refine below_alloc ?_ _) | (with_reducible refine below_drew1 ?_) | (with_reducible refine pw_below_drewN ?_ _) | (with_reducible refine below_set ?_ (by omega)) | (with_reducible refine below_step ?_ hb3) | (with_reducible refine below_step ?_ hb2) | (with_reducible refine below_step ?_ hb1))

end Go.Proofs.Ytfmmmfddpfddoaa.OwnMem2
