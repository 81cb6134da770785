/- StoreInt: walks of our own over those of the memories and of the bytes. -/
import Derived.Test.YthpmpjejjbhkjaaOwnMem
import Derived.Test.YthpmpjejjbhkjaaOwnBytes
namespace Go.Proofs.Ythpmpjejjbhkjaa.OwnStoreInt
open Go Go.RowKit Go.Proofs.YthpmpjejjbhkjaaW.PrintWords Go.Proofs.YthpmpjejjbhkjaaW.PrintLast Go.Proofs.YthpmpjejjbhkjaaW.PrintMore Go.Proofs.Ythpmpjejjbhkjaa.OwnMem Go.Proofs.Ythpmpjejjbhkjaa.OwnBytes
set_option linter.unusedVariables false
set_option linter.unusedSimpArgs false
set_option maxRecDepth 100000 in
set_option maxHeartbeats 4000000 in
theorem size_s (n : Int) (w : World) : Calls Try.prog 69 #[.int .i64 n] w fun e w' => e = .returned (.bool (decide (n = 1 ∨ n = 2 ∨ n = 4 ∨ n = 8))) ∧ Below w.heap.size w w' := by
  by_cases h1 : n = 1
  · subst h1
    go_enter Try.func69, Try.ntmps69
    go_wp2
    go_ret
    exact ⟨rfl, Below.refl _ _⟩
  have b1 : (n == 1) = false := beq_eq_false_iff_ne.2 h1
  by_cases h2 : n = 2
  · subst h2
    go_enter Try.func69, Try.ntmps69
    go_wp2
    go_ret
    exact ⟨rfl, Below.refl _ _⟩
  have b2 : (n == 2) = false := beq_eq_false_iff_ne.2 h2
  by_cases h4 : n = 4
  · subst h4
    go_enter Try.func69, Try.ntmps69
    go_wp2
    go_ret
    exact ⟨rfl, Below.refl _ _⟩
  have b4 : (n == 4) = false := beq_eq_false_iff_ne.2 h4
  by_cases h8 : n = 8
  · subst h8
    go_enter Try.func69, Try.ntmps69
    go_wp2
    go_ret
    exact ⟨rfl, Below.refl _ _⟩
  have b8 : (n == 8) = false := beq_eq_false_iff_ne.2 h8
  rw [decide_eq_false (by omega)]
  go_enter Try.func69, Try.ntmps69
  go_wp2
  go_ret
  exact ⟨rfl, Below.refl _ _⟩
set_option maxRecDepth 100000 in
set_option maxHeartbeats 4000000 in
theorem size_i (n : Int) (w : World) : Calls Try.prog 71 #[.int .i64 n] w fun e w' => e = .returned (.bool (decide (n = 1 ∨ n = 2 ∨ n = 4 ∨ n = 8))) ∧ Below w.heap.size w w' := by
  by_cases h1 : n = 1
  · subst h1
    go_enter Try.func71, Try.ntmps71
    go_wp2
    go_ret
    exact ⟨rfl, Below.refl _ _⟩
  have b1 : (n == 1) = false := beq_eq_false_iff_ne.2 h1
  by_cases h2 : n = 2
  · subst h2
    go_enter Try.func71, Try.ntmps71
    go_wp2
    go_ret
    exact ⟨rfl, Below.refl _ _⟩
  have b2 : (n == 2) = false := beq_eq_false_iff_ne.2 h2
  by_cases h4 : n = 4
  · subst h4
    go_enter Try.func71, Try.ntmps71
    go_wp2
    go_ret
    exact ⟨rfl, Below.refl _ _⟩
  have b4 : (n == 4) = false := beq_eq_false_iff_ne.2 h4
  by_cases h8 : n = 8
  · subst h8
    go_enter Try.func71, Try.ntmps71
    go_wp2
    go_ret
    exact ⟨rfl, Below.refl _ _⟩
  have b8 : (n == 8) = false := beq_eq_false_iff_ne.2 h8
  rw [decide_eq_false (by omega)]
  go_enter Try.func71, Try.ntmps71
  go_wp2
  go_ret
  exact ⟨rfl, Below.refl _ _⟩
def stI (mx : Int) (d : ByteArray) (at_ n x : Int) : Int × ByteArray × Int :=
  if goodM mx d = true then (if n = 1 ∨ n = 2 ∨ n = 4 ∨ n = 8 then OwnMem.stM mx d at_ (bytesM x n.toNat) else (mx, d, 1)) else (0, ⟨#[]⟩, 1)
set_option maxRecDepth 100000 in
set_option maxHeartbeats 4000000 in
theorem sti_s (mx : Int) (d : ByteArray) (at_ n x : Int) (h0 : 0 ≤ x) (w : World) : Calls Try.prog 41 #[.agg #[.int .i64 mx, .string d], .int .i64 at_, .int .i64 n, .int .u64 x] w fun e w' => e = .returned (stV (stI mx d at_ n x)) ∧ Below w.heap.size w w' := by
  have cg := fun w => good_s mx d w
  have ck := fun w => size_s n w
  unfold stI
  by_cases g : goodM mx d = true
  · rw [if_pos g]
    rw [g] at cg
    by_cases a : n = 1 ∨ n = 2 ∨ n = 4 ∨ n = 8
    · rw [if_pos a]
      rw [decide_eq_true a] at ck
      obtain ⟨N, rfl⟩ : ∃ N : Nat, n = N := ⟨n.toNat, by omega⟩
      rw [Int.toNat_natCast]
      have cb := fun w => bytes_s x N h0 (by omega) w
      have cs := fun w => stb_s mx d at_ (bytesM x N) w
      generalize bytesM x N = b at *
      generalize OwnMem.stM mx d at_ b = r at *
      obtain ⟨y, z, c⟩ := r
      simp only [stV] at cs ⊢
      clear g a
      go_enter Try.func41, Try.ntmps41
      go_wp2_with (first
        | (go_at_call 69; (fail_if_success (have _ := hb2)); have _ := hb1; (with_reducible refine (ck _).mono ?_); rintro e w2 ⟨rfl, hb2⟩; obtain ⟨hc2, hf2⟩ := bcell hb2; have hz2_0_0 : w.heap.size < w2.heap.size := (by have := hb2.size; first | omega | (simp at this; omega)); have hz2_0_1 : w.heap.size + 1 < w2.heap.size := (by have := hb2.size; first | omega | (simp at this; omega)))
        | (go_at_call 49; (fail_if_success (have _ := hb1)); (with_reducible refine (cg _).mono ?_); rintro e w1 ⟨rfl, hb1⟩; obtain ⟨hc1, hf1⟩ := bcell hb1; have hz1_0_0 : w.heap.size < w1.heap.size := (by have := hb1.size; first | omega | (simp at this; omega)); have hz1_0_1 : w.heap.size + 1 < w1.heap.size := (by have := hb1.size; first | omega | (simp at this; omega))))
      go_region_with (first
        | (go_at_call 29; (fail_if_success (have _ := hb4)); have _ := hb3; (with_reducible refine (cs _).mono ?_); rintro e w4 ⟨rfl, hb4⟩; have hc4 : ∀ b o, b < w3.heap.size → w4.cell? ⟨b, o, none⟩ = w3.cell? ⟨b, o, none⟩ := (bcell hb4).1; have hf4 : ∀ b o, b < w3.heap.size → w4.frozen? ⟨b, o, none⟩ = w3.frozen? ⟨b, o, none⟩ := (bcell hb4).2; have hz4_0_0 : w.heap.size < w4.heap.size := (by have := hb4.size; first | omega | (simp at this; omega)); have hz4_0_1 : w.heap.size + 1 < w4.heap.size := (by have := hb4.size; first | omega | (simp at this; omega)))
        | (go_at_call 70; (fail_if_success (have _ := hb3)); (with_reducible refine (cb _).mono ?_); rintro e w3 ⟨rfl, hb3⟩; have hc3 : ∀ b o, b < w2.heap.size → w3.cell? ⟨b, o, none⟩ = w2.cell? ⟨b, o, none⟩ := (bcell hb3).1; have hf3 : ∀ b o, b < w2.heap.size → w3.frozen? ⟨b, o, none⟩ = w2.frozen? ⟨b, o, none⟩ := (bcell hb3).2; have hz3_0_0 : w.heap.size < w3.heap.size := (by have := hb3.size; first | omega | (simp at this; omega)); have hz3_0_1 : w.heap.size + 1 < w3.heap.size := (by have := hb3.size; first | omega | (simp at this; omega))))
      all_goals
        simp only [Exit.then]
        first | (rename_i kk; refine kk _ _ ?_) | (rename_i kk _; refine kk _ _ ?_) | (rename_i kk _ _; refine kk _ _ ?_) | (rename_i kk _ _ _; refine kk _ _ ?_) | (rename_i kk _ _ _ _; refine kk _ _ ?_)
        go_wp2
        refine bodyPost_ret (v := .tuple #[.agg #[.int .i64 y, .string z], .int .i64 c]) (by simp [results, Try.results41, go_sem, hc1, hf1, hz1_0_0, hz1_0_1, hc2, hf2, hz2_0_0, hz2_0_1, hc3, hf3, hz3_0_0, hz3_0_1, hc4, hf4, hz4_0_0, hz4_0_1]) rfl ⟨rfl, ?_⟩
        repeat (first | (with_reducible exact Below.refl _ _) | (with_reducible refine below_alloc ?_ _) | (with_reducible refine below_drew1 ?_) | (with_reducible refine pw_below_drewN ?_ _) | (with_reducible refine below_set ?_ (by omega)) | (with_reducible refine below_step ?_ hb4) | (with_reducible refine below_step ?_ hb3) | (with_reducible refine below_step ?_ hb2) | (with_reducible refine below_step ?_ hb1))
    · rw [if_neg a]
      rw [decide_eq_false a] at ck
      clear g a
      go_enter Try.func41, Try.ntmps41
      go_wp2_with (first
        | (go_at_call 69; (fail_if_success (have _ := hb2)); have _ := hb1; (with_reducible refine (ck _).mono ?_); rintro e w2 ⟨rfl, hb2⟩; obtain ⟨hc2, hf2⟩ := bcell hb2; have hz2_0_0 : w.heap.size < w2.heap.size := (by have := hb2.size; first | omega | (simp at this; omega)); have hz2_0_1 : w.heap.size + 1 < w2.heap.size := (by have := hb2.size; first | omega | (simp at this; omega)))
        | (go_at_call 49; (fail_if_success (have _ := hb1)); (with_reducible refine (cg _).mono ?_); rintro e w1 ⟨rfl, hb1⟩; obtain ⟨hc1, hf1⟩ := bcell hb1; have hz1_0_0 : w.heap.size < w1.heap.size := (by have := hb1.size; first | omega | (simp at this; omega)); have hz1_0_1 : w.heap.size + 1 < w1.heap.size := (by have := hb1.size; first | omega | (simp at this; omega))))
      refine bodyPost_ret (v := stV (mx, d, 1)) (by simp [results, Try.results41, go_sem, hc1, hf1, hz1_0_0, hz1_0_1, hc2, hf2, hz2_0_0, hz2_0_1]) rfl ⟨rfl, ?_⟩
      repeat (first | (with_reducible exact Below.refl _ _) | (with_reducible refine below_alloc ?_ _) | (with_reducible refine below_drew1 ?_) | (with_reducible refine pw_below_drewN ?_ _) | (with_reducible refine below_set ?_ (by omega)) | (with_reducible refine below_step ?_ hb2) | (with_reducible refine below_step ?_ hb1))
  · rw [if_neg g]
    rw [Bool.not_eq_true] at g
    rw [g] at cg
    go_enter Try.func41, Try.ntmps41
    go_wp2_with (first
      | (go_at_call 49; (fail_if_success (have _ := hb1)); (with_reducible refine (cg _).mono ?_); rintro e w1 ⟨rfl, hb1⟩; obtain ⟨hc1, hf1⟩ := bcell hb1; have hz1_0_0 : w.heap.size < w1.heap.size := (by have := hb1.size; first | omega | (simp at this; omega)); have hz1_0_1 : w.heap.size + 1 < w1.heap.size := (by have := hb1.size; first | omega | (simp at this; omega))))
    refine bodyPost_ret (v := stV (0, ⟨#[]⟩, 1)) (by simp [results, Try.results41, go_sem, hc1, hf1, hz1_0_0, hz1_0_1]) rfl ⟨rfl, ?_⟩
    repeat (first | (with_reducible exact Below.refl _ _) | (with_reducible refine below_alloc ?_ _) | (with_reducible refine below_drew1 ?_) | (with_reducible refine pw_below_drewN ?_ _) | (with_reducible refine below_set ?_ (by omega)) | (with_reducible refine below_step ?_ hb1))
set_option maxRecDepth 100000 in
set_option maxHeartbeats 4000000 in
theorem sti_i (mx : Int) (d : ByteArray) (at_ n x : Int) (h0 : 0 ≤ x) (w : World) : Calls Try.prog 42 #[.agg #[.int .i64 mx, .string d], .int .i64 at_, .int .i64 n, .int .u64 x] w fun e w' => e = .returned (stV (stI mx d at_ n x)) ∧ Below w.heap.size w w' := by
  have co := fun w => orz mx d w
  have ck := fun w => size_i n w
  unfold orzM at co
  by_cases a : n = 1 ∨ n = 2 ∨ n = 4 ∨ n = 8
  · have e : stI mx d at_ n x = OwnMem.stM mx d at_ (bytesM x n.toNat) := by
      unfold stI
      rw [if_pos a]
      by_cases g : goodM mx d = true
      · rw [if_pos g]
      · rw [if_neg g]; unfold OwnMem.stM; rw [if_neg g]
    rw [e]
    rw [decide_eq_true a] at ck
    obtain ⟨N, rfl⟩ : ∃ N : Nat, n = N := ⟨n.toNat, by omega⟩
    rw [Int.toNat_natCast]
    have cb := fun w => bytes_i x N h0 (by omega) w
    have cs := fun w => stb_i mx d at_ (bytesM x N) w
    clear co e
    generalize bytesM x N = b at *
    generalize OwnMem.stM mx d at_ b = r at *
    obtain ⟨y, z, c⟩ := r
    simp only [stV] at cs ⊢
    clear a
    go_enter Try.func42, Try.ntmps42
    go_wp2_with (first
      | (go_at_call 71; (fail_if_success (have _ := hb1)); (with_reducible refine (ck _).mono ?_); rintro e w1 ⟨rfl, hb1⟩; obtain ⟨hc1, hf1⟩ := bcell hb1; have hz1_0_0 : w.heap.size < w1.heap.size := (by have := hb1.size; first | omega | (simp at this; omega)); have hz1_0_1 : w.heap.size + 1 < w1.heap.size := (by have := hb1.size; first | omega | (simp at this; omega))))
    go_region_with (first
      | (go_at_call 30; (fail_if_success (have _ := hb3)); have _ := hb2; (with_reducible refine (cs _).mono ?_); rintro e w3 ⟨rfl, hb3⟩; have hc3 : ∀ b o, b < w2.heap.size → w3.cell? ⟨b, o, none⟩ = w2.cell? ⟨b, o, none⟩ := (bcell hb3).1; have hf3 : ∀ b o, b < w2.heap.size → w3.frozen? ⟨b, o, none⟩ = w2.frozen? ⟨b, o, none⟩ := (bcell hb3).2; have hz3_0_0 : w.heap.size < w3.heap.size := (by have := hb3.size; first | omega | (simp at this; omega)); have hz3_0_1 : w.heap.size + 1 < w3.heap.size := (by have := hb3.size; first | omega | (simp at this; omega)))
      | (go_at_call 72; (fail_if_success (have _ := hb2)); (with_reducible refine (cb _).mono ?_); rintro e w2 ⟨rfl, hb2⟩; have hc2 : ∀ b o, b < w1.heap.size → w2.cell? ⟨b, o, none⟩ = w1.cell? ⟨b, o, none⟩ := (bcell hb2).1; have hf2 : ∀ b o, b < w1.heap.size → w2.frozen? ⟨b, o, none⟩ = w1.frozen? ⟨b, o, none⟩ := (bcell hb2).2; have hz2_0_0 : w.heap.size < w2.heap.size := (by have := hb2.size; first | omega | (simp at this; omega)); have hz2_0_1 : w.heap.size + 1 < w2.heap.size := (by have := hb2.size; first | omega | (simp at this; omega))))
    all_goals
      simp only [Exit.then]
      first | (rename_i kk; refine kk _ _ ?_) | (rename_i kk _; refine kk _ _ ?_) | (rename_i kk _ _; refine kk _ _ ?_) | (rename_i kk _ _ _; refine kk _ _ ?_) | (rename_i kk _ _ _ _; refine kk _ _ ?_)
      go_wp2
      refine bodyPost_ret (v := .tuple #[.agg #[.int .i64 y, .string z], .int .i64 c]) (by simp [results, Try.results42, go_sem, hc1, hf1, hz1_0_0, hz1_0_1, hc2, hf2, hz2_0_0, hz2_0_1, hc3, hf3, hz3_0_0, hz3_0_1]) rfl ⟨rfl, ?_⟩
      repeat (first | (with_reducible exact Below.refl _ _) | (with_reducible refine below_alloc ?_ _) | (with_reducible refine below_drew1 ?_) | (with_reducible refine pw_below_drewN ?_ _) | (with_reducible refine below_set ?_ (by omega)) | (with_reducible refine below_step ?_ hb3) | (with_reducible refine below_step ?_ hb2) | (with_reducible refine below_step ?_ hb1))
  · unfold stI
    rw [if_neg a]
    rw [decide_eq_false a] at ck
    clear a
    by_cases g : goodM mx d = true
    · rw [if_pos g]
      simp only [if_pos g] at co
      clear g
      go_enter Try.func42, Try.ntmps42
      go_wp2_with (first
        | (go_at_call 58; (fail_if_success (have _ := hb2)); have _ := hb1; (with_reducible refine (co _).mono ?_); rintro e w2 ⟨rfl, hb2⟩; obtain ⟨hc2, hf2⟩ := bcell hb2; have hz2_0_0 : w.heap.size < w2.heap.size := (by have := hb2.size; first | omega | (simp at this; omega)); have hz2_0_1 : w.heap.size + 1 < w2.heap.size := (by have := hb2.size; first | omega | (simp at this; omega)))
        | (go_at_call 71; (fail_if_success (have _ := hb1)); (with_reducible refine (ck _).mono ?_); rintro e w1 ⟨rfl, hb1⟩; obtain ⟨hc1, hf1⟩ := bcell hb1; have hz1_0_0 : w.heap.size < w1.heap.size := (by have := hb1.size; first | omega | (simp at this; omega)); have hz1_0_1 : w.heap.size + 1 < w1.heap.size := (by have := hb1.size; first | omega | (simp at this; omega))))
      refine bodyPost_ret (v := stV (mx, d, 1)) (by simp [results, Try.results42, go_sem, hc1, hf1, hz1_0_0, hz1_0_1, hc2, hf2, hz2_0_0, hz2_0_1]) rfl ⟨rfl, ?_⟩
      repeat (first | (with_reducible exact Below.refl _ _) | (with_reducible refine below_alloc ?_ _) | (with_reducible refine below_drew1 ?_) | (with_reducible refine pw_below_drewN ?_ _) | (with_reducible refine below_set ?_ (by omega)) | (with_reducible refine below_step ?_ hb2) | (with_reducible refine below_step ?_ hb1))
    · rw [if_neg g]
      simp only [if_neg g] at co
      clear g
      go_enter Try.func42, Try.ntmps42
      go_wp2_with (first
        | (go_at_call 58; (fail_if_success (have _ := hb2)); have _ := hb1; (with_reducible refine (co _).mono ?_); rintro e w2 ⟨rfl, hb2⟩; obtain ⟨hc2, hf2⟩ := bcell hb2; have hz2_0_0 : w.heap.size < w2.heap.size := (by have := hb2.size; first | omega | (simp at this; omega)); have hz2_0_1 : w.heap.size + 1 < w2.heap.size := (by have := hb2.size; first | omega | (simp at this; omega)))
        | (go_at_call 71; (fail_if_success (have _ := hb1)); (with_reducible refine (ck _).mono ?_); rintro e w1 ⟨rfl, hb1⟩; obtain ⟨hc1, hf1⟩ := bcell hb1; have hz1_0_0 : w.heap.size < w1.heap.size := (by have := hb1.size; first | omega | (simp at this; omega)); have hz1_0_1 : w.heap.size + 1 < w1.heap.size := (by have := hb1.size; first | omega | (simp at this; omega))))
      refine bodyPost_ret (v := stV (0, ⟨#[]⟩, 1)) (by simp [results, Try.results42, go_sem, hc1, hf1, hz1_0_0, hz1_0_1, hc2, hf2, hz2_0_0, hz2_0_1]) rfl ⟨rfl, ?_⟩
      repeat (first | (with_reducible exact Below.refl _ _) | (with_reducible refine below_alloc ?_ _) | (with_reducible refine below_drew1 ?_) | (with_reducible refine pw_below_drewN ?_ _) | (with_reducible refine below_set ?_ (by omega)) | (with_reducible refine below_step ?_ hb2) | (with_reducible refine below_step ?_ hb1))
set_option maxRecDepth 100000 in
set_option maxHeartbeats 4000000 in
theorem law_StoreInt (mx : Int) (d : ByteArray) (at_ n x : Int) (h0 : 0 ≤ x) (w : World) : Calls Try.prog 13 #[.agg #[.int .i64 mx, .string d], .int .i64 at_, .int .i64 n, .int .u64 x] w fun e w' => e = .returned (.bool true) ∧ Below w.heap.size w w' := by
  have cz := fun w => szm mx d 1048576 w
  by_cases z : wrap64 (1048576 - (d.size : Int)) < 0
  · simp only [if_pos z] at cz
    go_enter Try.func13, Try.ntmps13
    go_wp2_with (first
      | (go_at_call 21; (fail_if_success (have _ := hb1)); (with_reducible refine (cz _).mono ?_); rintro e w1 ⟨rfl, hb1⟩; obtain ⟨hc1, hf1⟩ := bcell hb1; have hz1_0_0 : w.heap.size < w1.heap.size := (by have := hb1.size; first | omega | (simp at this; omega))))
    refine bodyPost_ret (v := .bool true) (by simp [results, Try.results13, go_sem, hc1, hf1, hz1_0_0]) rfl ⟨rfl, ?_⟩
    repeat (first | (with_reducible exact Below.refl _ _) | (with_reducible refine below_alloc ?_ _) | (with_reducible refine below_drew1 ?_) | (with_reducible refine pw_below_drewN ?_ _) | (with_reducible refine below_set ?_ (by omega)) | (with_reducible refine below_step ?_ hb1))
  · simp only [if_neg z] at cz
    generalize wrap64 (1048576 - (d.size : Int)) = q at *
    have cs := fun w => sti_s mx d at_ n x h0 w
    have ci := fun w => sti_i mx d at_ n x h0 w
    generalize stI mx d at_ n x = r at *
    obtain ⟨y1, z1, c⟩ := r
    simp only [stV] at cs ci
    go_enter Try.func13, Try.ntmps13
    go_wp2_with (first
      | (go_at_call 31; (fail_if_success (have _ := hb6)); have _ := hb5; (with_reducible refine (eqm y1 z1 _).mono ?_); rintro e w6 ⟨rfl, hb6⟩; obtain ⟨hc6, hf6⟩ := bcell hb6; have hz6_0_0 : w.heap.size < w6.heap.size := (by have := hb6.size; first | omega | (simp at this; omega)); have hz6_3_0 : w3.heap.size < w6.heap.size := (by have := hb6.size; first | omega | (simp at this; omega)); have hz6_5_0 : w5.heap.size < w6.heap.size := (by have := hb6.size; first | omega | (simp at this; omega)))
      | (go_at_call 42; (fail_if_success (have _ := hb5)); have _ := hb4; (with_reducible refine (ci _).mono ?_); rintro e w5 ⟨rfl, hb5⟩; obtain ⟨hc5, hf5⟩ := bcell hb5; have hz5_0_0 : w.heap.size < w5.heap.size := (by have := hb5.size; first | omega | (simp at this; omega)); have hz5_3_0 : w3.heap.size < w5.heap.size := (by have := hb5.size; first | omega | (simp at this; omega)))
      | (go_at_call 23; (fail_if_success (have _ := hb4)); have _ := hb3; (with_reducible refine (tom mx d _).mono ?_); rintro e w4 ⟨rfl, hb4⟩; obtain ⟨hc4, hf4⟩ := bcell hb4; have hz4_0_0 : w.heap.size < w4.heap.size := (by have := hb4.size; first | omega | (simp at this; omega)); have hz4_3_0 : w3.heap.size < w4.heap.size := (by have := hb4.size; first | omega | (simp at this; omega)))
      | (go_at_call 41; (fail_if_success (have _ := hb3)); have _ := hb2; (with_reducible refine (cs _).mono ?_); rintro e w3 ⟨rfl, hb3⟩; obtain ⟨hc3, hf3⟩ := bcell hb3; have hz3_0_0 : w.heap.size < w3.heap.size := (by have := hb3.size; first | omega | (simp at this; omega)))
      | (go_at_call 23; (fail_if_success (have _ := hb2)); have _ := hb1; (with_reducible refine (tom mx d _).mono ?_); rintro e w2 ⟨rfl, hb2⟩; obtain ⟨hc2, hf2⟩ := bcell hb2; have hz2_0_0 : w.heap.size < w2.heap.size := (by have := hb2.size; first | omega | (simp at this; omega)))
      | (go_at_call 21; (fail_if_success (have _ := hb1)); (with_reducible refine (cz _).mono ?_); rintro e w1 ⟨rfl, hb1⟩; obtain ⟨hc1, hf1⟩ := bcell hb1; have hz1_0_0 : w.heap.size < w1.heap.size := (by have := hb1.size; first | omega | (simp at this; omega))))
    refine bodyPost_ret (v := .bool true) (by simp [results, Try.results13, go_sem, hc1, hf1, hz1_0_0, hc2, hf2, hz2_0_0, hc3, hf3, hz3_0_0, hc4, hf4, hz4_0_0, hz4_3_0, hc5, hf5, hz5_0_0, hz5_3_0, hc6, hf6, hz6_0_0, hz6_3_0, hz6_5_0]) rfl ⟨rfl, ?_⟩
    repeat (first | (with_reducible exact Below.refl _ _) | (with_reducible refine below_alloc ?_ _) | (with_reducible refine below_drew1 ?_) | (with_reducible refine pw_below_drewN ?_ _) | (with_reducible refine below_set ?_ (by omega)) | (with_reducible refine below_step ?_ hb6) | (with_reducible refine below_step ?_ hb5) | (with_reducible refine below_step ?_ hb4) | (with_reducible refine below_step ?_ hb3) | (with_reducible refine below_step ?_ hb2) | (with_reducible refine below_step ?_ hb1))

end Go.Proofs.Ythpmpjejjbhkjaa.OwnStoreInt
