/- Memories: walks of our own of the storing functions and of their callers; the readers' by printed walks. -/
import Derived.Test.YthpmpjejjbhkjaaPlain4
import Derived.Test.YthpmpjejjbhkjaaPFnExactLoadBytesx
import Derived.Test.YthpmpjejjbhkjaaPorZerox
import Derived.Test.YthpmpjejjbhkjaaPeqMemoryx
import Derived.Outline
import Derived.RegionTactic
import Derived.ChangeAlike
import Derived.Deep.QuietTactic
import Derived.BigQuiet
namespace Go.Proofs.Ythpmpjejjbhkjaa.OwnMem
open Go Go.RowKit Go.Proofs.YthpmpjejjbhkjaaW.PrintWords Go.Proofs.YthpmpjejjbhkjaaW.PrintLast Go.Proofs.YthpmpjejjbhkjaaW.PrintMore Go.Proofs.Ythpmpjejjbhkjaa.PFnExactLoadBytes
set_option linter.unusedVariables false
set_option linter.unusedSimpArgs false
theorem l1In_told (a b c : Int) : spec_l1In.f a b c = some (decide (b ≤ a ∧ a ≤ c)) := by
  unfold spec_l1In.f
  by_cases h : b ≤ a <;> simp [h]

/-! ### Good memories -/
def goodM (a : Int) (s : ByteArray) : Bool := decide (0 ≤ a ∧ a ≤ 8 ∧ (s.size : Int) % 256 = 0 ∧ (s.size : Int) ≤ a * 256)
theorem goodM_spec (a : Int) (s : ByteArray) : spec_GoodMemory.f a s = some (goodM a s) := by
  unfold spec_GoodMemory.f goodM
  simp only [l1In_told, Option.bind_some]
  by_cases h1 : 0 ≤ a ∧ a ≤ 8
  · rw [decide_eq_true h1, if_pos rfl, Pl.w64 (by omega) (by omega)]
    by_cases h2 : (s.size : Int) % 256 = 0
    · rw [if_pos h2]; simp only [Option.some.injEq, decide_eq_decide]; omega
    · rw [if_neg h2, decide_eq_false (by omega)]
  · rw [decide_eq_false h1, if_neg (by decide), decide_eq_false (by omega)]
theorem goodM_impl (a : Int) (s : ByteArray) : impl_GoodMemory.f a s = some (goodM a s) := by
  unfold impl_GoodMemory.f goodM
  by_cases h0 : a ≥ 0
  · by_cases h1 : a ≤ 8
    · rw [if_pos h0, if_pos h1, Pl.w64 (by omega) (by omega)]
      by_cases h2 : (s.size : Int) % 256 = 0
      · rw [if_pos h2]; simp only [Option.some.injEq, decide_eq_decide]; omega
      · rw [if_neg h2, decide_eq_false (by omega)]
    · rw [if_pos h0, if_neg h1, decide_eq_false (by omega)]
  · rw [if_neg h0, decide_eq_false (by omega)]

theorem bcell {W w1 : World} (hb : Below W.heap.size W w1) : (∀ b o, b < W.heap.size → w1.cell? ⟨b, o, none⟩ = W.cell? ⟨b, o, none⟩) ∧ (∀ b o, b < W.heap.size → w1.frozen? ⟨b, o, none⟩ = W.frozen? ⟨b, o, none⟩) :=
  ⟨fun b o h => hb.cell (p := ⟨b, o, none⟩) h, fun b o h => hb.frozen (p := ⟨b, o, none⟩) h⟩
abbrev memV (mx : Int) (d : ByteArray) : Value := .agg #[.int .i64 mx, .string d]
/-! ### The readers, by their printed walks -/
theorem good_s (mx : Int) (d : ByteArray) (w : World) : Calls Try.prog 49 #[.agg #[.int .i64 mx, .string d]] w fun e w' => e = .returned (.bool (goodM mx d)) ∧ Below w.heap.size w w' := spec_GoodMemory.calls _ _ _ w (goodM_spec mx d)
theorem good_i (mx : Int) (d : ByteArray) (w : World) : Calls Try.prog 51 #[.agg #[.int .i64 mx, .string d]] w fun e w' => e = .returned (.bool (goodM mx d)) ∧ Below w.heap.size w w' := impl_GoodMemory.calls _ _ _ w (goodM_impl mx d)
def inM (d : ByteArray) (at_ n : Int) : Bool := decide (at_ ≤ (d.size : Int) ∧ n ≤ (d.size : Int) - at_)
theorem inM_spec (mx : Int) (d : ByteArray) (at_ n : Int) (h0 : 0 ≤ at_) (h1 : d.size ≤ 9223372036854775807) : spec_l5Inside.f mx d at_ n = some (inM d at_ n) := by
  unfold spec_l5Inside.f inM
  by_cases h : at_ ≤ (d.size : Int)
  · rw [if_pos h, Pl.w64 (by omega) (by omega)]; simp only [Option.some.injEq, decide_eq_decide]; omega
  · rw [if_neg h, decide_eq_false (by omega)]
theorem inM_impl (mx : Int) (d : ByteArray) (at_ n : Int) (h0 : 0 ≤ at_) (h1 : d.size ≤ 9223372036854775807) : impl_Memory_within.f mx d at_ n = some (inM d at_ n) := by
  unfold impl_Memory_within.f inM
  by_cases h : at_ ≤ (d.size : Int)
  · rw [if_pos h, Pl.w64 (by omega) (by omega)]; simp only [Option.some.injEq, decide_eq_decide]; omega
  · rw [if_neg h, decide_eq_false (by omega)]
theorem in_s (mx : Int) (d : ByteArray) (at_ n : Int) (w : World) (h0 : 0 ≤ at_) (h1 : d.size ≤ 9223372036854775807) : Calls Try.prog 50 #[.agg #[.int .i64 mx, .string d], .int .i64 at_, .int .i64 n] w fun e w' => e = .returned (.bool (inM d at_ n)) ∧ Below w.heap.size w w' := spec_l5Inside.calls _ _ _ _ _ w (inM_spec mx d at_ n h0 h1)
theorem in_i (mx : Int) (d : ByteArray) (at_ n : Int) (w : World) (h0 : 0 ≤ at_) (h1 : d.size ≤ 9223372036854775807) : Calls Try.prog 52 #[.agg #[.int .i64 mx, .string d], .int .i64 at_, .int .i64 n] w fun e w' => e = .returned (.bool (inM d at_ n)) ∧ Below w.heap.size w w' := impl_Memory_within.calls _ _ _ _ _ w (inM_impl mx d at_ n h0 h1)
def orzM (mx : Int) (d : ByteArray) : Int × ByteArray := if goodM mx d then (mx, d) else (0, ⟨#[]⟩)
theorem goodM_orz (mx : Int) (d : ByteArray) : PorZero.impl_GoodMemory.f mx d = some (goodM mx d) := goodM_impl mx d
theorem orz (mx : Int) (d : ByteArray) (w : World) : Calls Try.prog 58 #[.agg #[.int .i64 mx, .string d]] w fun e w' => e = .returned (.agg #[.int .i64 (orzM mx d).1, .string (orzM mx d).2]) ∧ Below w.heap.size w w' := PorZero.impl_orZero.calls _ _ _ _ w (by
  unfold PorZero.impl_orZero.f orzM; rw [goodM_orz, Option.bind_some]
  by_cases h : goodM mx d = true
  · rw [if_pos h, if_pos h]
  · rw [if_neg h, if_neg h])
theorem eqm (mx : Int) (d : ByteArray) (w : World) : Calls Try.prog 31 #[.agg #[.int .i64 mx, .string d], .agg #[.int .i64 mx, .string d]] w fun e w' => e = .returned (.bool true) ∧ Below w.heap.size w w' := PeqMemory.laws_eqMemory.calls _ _ _ _ _ w (by
  unfold PeqMemory.laws_eqMemory.f; simp)
theorem tom (mx : Int) (d : ByteArray) (w : World) : Calls Try.prog 23 #[.agg #[.int .i64 mx, .string d]] w fun e w' => e = .returned (.agg #[.int .i64 mx, .string d]) ∧ Below w.heap.size w w' := laws_toMemory.calls _ _ _ _ w rfl
theorem szm (mx : Int) (d : ByteArray) (n : Int) (w : World) : Calls Try.prog 21 #[.agg #[.int .i64 mx, .string d], .int .i64 n] w fun e w' => e = .returned (.int .i64 (if wrap64 (n - (d.size : Int)) < 0 then -1 else wrap64 (n - (d.size : Int)))) ∧ Below w.heap.size w w' := laws_szMemory.calls _ _ _ _ w (by unfold laws_szMemory.f; split <;> rfl)
/-! ### Storing -/
def putM (d s : ByteArray) (at_ : Nat) : ByteArray := d.extract 0 at_ ++ s ++ d.extract (at_ + s.size) d.size
set_option maxRecDepth 100000 in
set_option maxHeartbeats 1000000 in
theorem store_s (mx : Int) (d s : ByteArray) (at_ : Nat) (w : World) (h : at_ + s.size ≤ d.size) (hd : d.size ≤ 4096) : Calls Try.prog 57 #[.agg #[.int .i64 mx, .string d], .int .i64 at_, .string s] w fun e w' => e = .returned (.agg #[.int .i64 mx, .string (putM d s at_)]) ∧ Below w.heap.size w w' := by
  have h1 : (at_ : Int) ≤ (d.size : Int) := by omega
  have h2 : (at_ : Int) + (s.size : Int) ≤ (d.size : Int) := by omega
  have e1 : (d.extract 0 at_).size = at_ := by rw [ByteArray.size_extract]; omega
  have z1 : (9223372036854775807 < (d.extract 0 at_).size + s.size) = False := eq_false (by omega)
  have z2 : (9223372036854775807 < (d.extract 0 at_ ++ s).size + (d.extract (at_ + s.size) d.size).size) = False := eq_false (by rw [ByteArray.size_append, ByteArray.size_extract, ByteArray.size_extract]; omega)
  clear e1
  unfold putM
  go_enter Try.func57, Try.ntmps57
  go_wp2
  go_region
  rename_i kk
  simp only [Exit.then]
  refine kk _ _ ?_
  go_wp2
  refine bodyPost_ret (v := .agg #[.int .i64 mx, .string (d.extract 0 at_ ++ s ++ d.extract (at_ + s.size) d.size)]) (by simp [results, Try.results57, go_sem]) rfl ⟨rfl, ?_⟩
  with_reducible exact below_drew1 (below_alloc (below_alloc (Below.refl _ _) _) _)
set_option maxRecDepth 100000 in
set_option maxHeartbeats 1000000 in
theorem store_i (mx : Int) (d s : ByteArray) (at_ : Nat) (w : World) (h : at_ + s.size ≤ d.size) (hd : d.size ≤ 4096) : Calls Try.prog 59 #[.agg #[.int .i64 mx, .string d], .int .i64 at_, .string s] w fun e w' => e = .returned (.agg #[.int .i64 mx, .string (putM d s at_)]) ∧ Below w.heap.size w w' := by
  have h1 : (at_ : Int) ≤ (d.size : Int) := by omega
  have h2 : (at_ : Int) + (s.size : Int) ≤ (d.size : Int) := by omega
  have e1 : (d.extract 0 at_).size = at_ := by rw [ByteArray.size_extract]; omega
  have z1 : (9223372036854775807 < (d.extract 0 at_).size + s.size) = False := eq_false (by omega)
  have z2 : (9223372036854775807 < (d.extract 0 at_ ++ s).size + (d.extract (at_ + s.size) d.size).size) = False := eq_false (by rw [ByteArray.size_append, ByteArray.size_extract, ByteArray.size_extract]; omega)
  clear e1
  unfold putM
  go_enter Try.func59, Try.ntmps59
  go_wp2
  go_region
  rename_i kk
  simp only [Exit.then]
  refine kk _ _ ?_
  go_wp2
  refine bodyPost_ret (v := .agg #[.int .i64 mx, .string (d.extract 0 at_ ++ s ++ d.extract (at_ + s.size) d.size)]) (by simp [results, Try.results59, go_sem]) rfl ⟨rfl, ?_⟩
  with_reducible exact below_drew1 (below_alloc (below_alloc (Below.refl _ _) _) _)
/-! ### StoreBytes -/
def stM (mx : Int) (d : ByteArray) (at_ : Int) (s : ByteArray) : Int × ByteArray × Int :=
  if goodM mx d = true then (if at_ < 0 then (mx, d, 1) else if inM d at_ s.size = true then (mx, putM d s at_.toNat, 0) else (mx, d, 2)) else (0, ⟨#[]⟩, 1)
theorem goodM_size {mx : Int} {d : ByteArray} (h : goodM mx d = true) : d.size ≤ 2048 := by
  unfold goodM at h; simp only [decide_eq_true_eq] at h; omega
abbrev stV (r : Int × ByteArray × Int) : Value := .tuple #[.agg #[.int .i64 r.1, .string r.2.1], .int .i64 r.2.2]
set_option maxRecDepth 100000 in
set_option maxHeartbeats 4000000 in
theorem stb_s (mx : Int) (d : ByteArray) (at_ : Int) (s : ByteArray) (w : World) : Calls Try.prog 29 #[.agg #[.int .i64 mx, .string d], .int .i64 at_, .string s] w fun e w' => e = .returned (stV (stM mx d at_ s)) ∧ Below w.heap.size w w' := by
  have cg := fun w => good_s mx d w
  unfold stM
  by_cases g : goodM mx d = true
  · rw [if_pos g]
    have gz := goodM_size g
    rw [g] at cg
    clear g
    by_cases a : at_ < 0
    · rw [if_pos a]
      go_enter Try.func29, Try.ntmps29
      go_wp2_with (first
        | (go_at_call 49; (fail_if_success (have _ := hb1)); (with_reducible refine (cg _).mono ?_); rintro e w1 ⟨rfl, hb1⟩; obtain ⟨hc1, hf1⟩ := bcell hb1; have hz1_0_0 : w.heap.size < w1.heap.size := (by have := hb1.size; first | omega | (simp at this; omega)); have hz1_0_1 : w.heap.size + 1 < w1.heap.size := (by have := hb1.size; first | omega | (simp at this; omega))))
      refine bodyPost_ret (v := stV (mx, d, 1)) (by simp [results, Try.results29, go_sem, hc1, hf1, hz1_0_0, hz1_0_1]) rfl ⟨rfl, ?_⟩
      repeat (first | (with_reducible exact Below.refl _ _) | (with_reducible refine below_alloc ?_ _) | (with_reducible refine below_drew1 ?_) | (with_reducible refine pw_below_drewN ?_ _) | (with_reducible refine below_set ?_ (by omega)) | (with_reducible refine below_step ?_ hb1))
    · rw [if_neg a]
      have ci := fun w => in_s mx d at_ s.size w (by omega) (by omega)
      by_cases i : inM d at_ s.size = true
      · rw [if_pos i]
        rw [i] at ci
        unfold inM at i; simp only [decide_eq_true_eq] at i
        obtain ⟨n, rfl⟩ : ∃ n : Nat, at_ = n := ⟨at_.toNat, by omega⟩
        have cs := fun w => store_s mx d s n w (by omega) (by omega)
        rw [Int.toNat_natCast]
        generalize putM d s n = q at *
        go_enter Try.func29, Try.ntmps29
        go_wp2_with (first
          | (go_at_call 57; (fail_if_success (have _ := hb3)); have _ := hb2; (with_reducible refine (cs _).mono ?_); rintro e w3 ⟨rfl, hb3⟩; obtain ⟨hc3, hf3⟩ := bcell hb3; have hz3_0_0 : w.heap.size < w3.heap.size := (by have := hb3.size; first | omega | (simp at this; omega)); have hz3_0_1 : w.heap.size + 1 < w3.heap.size := (by have := hb3.size; first | omega | (simp at this; omega)))
          | (go_at_call 50; (fail_if_success (have _ := hb2)); have _ := hb1; (with_reducible refine (ci _).mono ?_); rintro e w2 ⟨rfl, hb2⟩; obtain ⟨hc2, hf2⟩ := bcell hb2; have hz2_0_0 : w.heap.size < w2.heap.size := (by have := hb2.size; first | omega | (simp at this; omega)); have hz2_0_1 : w.heap.size + 1 < w2.heap.size := (by have := hb2.size; first | omega | (simp at this; omega)))
          | (go_at_call 49; (fail_if_success (have _ := hb1)); (with_reducible refine (cg _).mono ?_); rintro e w1 ⟨rfl, hb1⟩; obtain ⟨hc1, hf1⟩ := bcell hb1; have hz1_0_0 : w.heap.size < w1.heap.size := (by have := hb1.size; first | omega | (simp at this; omega)); have hz1_0_1 : w.heap.size + 1 < w1.heap.size := (by have := hb1.size; first | omega | (simp at this; omega))))
        refine bodyPost_ret (v := stV (mx, q, 0)) (by simp [results, Try.results29, go_sem, hc1, hf1, hz1_0_0, hz1_0_1, hc2, hf2, hz2_0_0, hz2_0_1, hc3, hf3, hz3_0_0, hz3_0_1]) rfl ⟨rfl, ?_⟩
        repeat (first | (with_reducible exact Below.refl _ _) | (with_reducible refine below_alloc ?_ _) | (with_reducible refine below_drew1 ?_) | (with_reducible refine pw_below_drewN ?_ _) | (with_reducible refine below_set ?_ (by omega)) | (with_reducible refine below_step ?_ hb3) | (with_reducible refine below_step ?_ hb2) | (with_reducible refine below_step ?_ hb1))
      · rw [if_neg i]
        rw [Bool.not_eq_true] at i
        rw [i] at ci
        go_enter Try.func29, Try.ntmps29
        go_wp2_with (first
          | (go_at_call 50; (fail_if_success (have _ := hb2)); have _ := hb1; (with_reducible refine (ci _).mono ?_); rintro e w2 ⟨rfl, hb2⟩; obtain ⟨hc2, hf2⟩ := bcell hb2; have hz2_0_0 : w.heap.size < w2.heap.size := (by have := hb2.size; first | omega | (simp at this; omega)); have hz2_0_1 : w.heap.size + 1 < w2.heap.size := (by have := hb2.size; first | omega | (simp at this; omega)))
          | (go_at_call 49; (fail_if_success (have _ := hb1)); (with_reducible refine (cg _).mono ?_); rintro e w1 ⟨rfl, hb1⟩; obtain ⟨hc1, hf1⟩ := bcell hb1; have hz1_0_0 : w.heap.size < w1.heap.size := (by have := hb1.size; first | omega | (simp at this; omega)); have hz1_0_1 : w.heap.size + 1 < w1.heap.size := (by have := hb1.size; first | omega | (simp at this; omega))))
        refine bodyPost_ret (v := stV (mx, d, 2)) (by simp [results, Try.results29, go_sem, hc1, hf1, hz1_0_0, hz1_0_1, hc2, hf2, hz2_0_0, hz2_0_1]) rfl ⟨rfl, ?_⟩
        repeat (first | (with_reducible exact Below.refl _ _) | (with_reducible refine below_alloc ?_ _) | (with_reducible refine below_drew1 ?_) | (with_reducible refine pw_below_drewN ?_ _) | (with_reducible refine below_set ?_ (by omega)) | (with_reducible refine below_step ?_ hb2) | (with_reducible refine below_step ?_ hb1))
  · rw [if_neg g]
    rw [Bool.not_eq_true] at g
    rw [g] at cg
    go_enter Try.func29, Try.ntmps29
    go_wp2_with (first
      | (go_at_call 49; (fail_if_success (have _ := hb1)); (with_reducible refine (cg _).mono ?_); rintro e w1 ⟨rfl, hb1⟩; obtain ⟨hc1, hf1⟩ := bcell hb1; have hz1_0_0 : w.heap.size < w1.heap.size := (by have := hb1.size; first | omega | (simp at this; omega)); have hz1_0_1 : w.heap.size + 1 < w1.heap.size := (by have := hb1.size; first | omega | (simp at this; omega))))
    refine bodyPost_ret (v := stV (0, ⟨#[]⟩, 1)) (by simp [results, Try.results29, go_sem, hc1, hf1, hz1_0_0, hz1_0_1]) rfl ⟨rfl, ?_⟩
    repeat (first | (with_reducible exact Below.refl _ _) | (with_reducible refine below_alloc ?_ _) | (with_reducible refine below_drew1 ?_) | (with_reducible refine pw_below_drewN ?_ _) | (with_reducible refine below_set ?_ (by omega)) | (with_reducible refine below_step ?_ hb1))
set_option maxRecDepth 100000 in
set_option maxHeartbeats 4000000 in
theorem stb_i (mx : Int) (d : ByteArray) (at_ : Int) (s : ByteArray) (w : World) : Calls Try.prog 30 #[.agg #[.int .i64 mx, .string d], .int .i64 at_, .string s] w fun e w' => e = .returned (stV (stM mx d at_ s)) ∧ Below w.heap.size w w' := by
  have cg := fun w => good_i mx d w
  have co := fun w => orz mx d w
  unfold stM
  unfold orzM at co
  by_cases g : goodM mx d = true
  · rw [if_pos g]
    have gz := goodM_size g
    rw [g] at cg
    simp only [if_pos g] at co
    clear g
    by_cases a : at_ < 0
    · rw [if_pos a]
      go_enter Try.func30, Try.ntmps30
      go_wp2_with (first
        | (go_at_call 58; (fail_if_success (have _ := hb2)); have _ := hb1; (with_reducible refine (co _).mono ?_); rintro e w2 ⟨rfl, hb2⟩; obtain ⟨hc2, hf2⟩ := bcell hb2; have hz2_0_0 : w.heap.size < w2.heap.size := (by have := hb2.size; first | omega | (simp at this; omega)); have hz2_0_1 : w.heap.size + 1 < w2.heap.size := (by have := hb2.size; first | omega | (simp at this; omega)))
        | (go_at_call 51; (fail_if_success (have _ := hb1)); (with_reducible refine (cg _).mono ?_); rintro e w1 ⟨rfl, hb1⟩; obtain ⟨hc1, hf1⟩ := bcell hb1; have hz1_0_0 : w.heap.size < w1.heap.size := (by have := hb1.size; first | omega | (simp at this; omega)); have hz1_0_1 : w.heap.size + 1 < w1.heap.size := (by have := hb1.size; first | omega | (simp at this; omega))))
      refine bodyPost_ret (v := stV (mx, d, 1)) (by simp [results, Try.results30, go_sem, hc1, hf1, hz1_0_0, hz1_0_1, hc2, hf2, hz2_0_0, hz2_0_1]) rfl ⟨rfl, ?_⟩
      repeat (first | (with_reducible exact Below.refl _ _) | (with_reducible refine below_alloc ?_ _) | (with_reducible refine below_drew1 ?_) | (with_reducible refine pw_below_drewN ?_ _) | (with_reducible refine below_set ?_ (by omega)) | (with_reducible refine below_step ?_ hb2) | (with_reducible refine below_step ?_ hb1))
    · rw [if_neg a]
      have ci := fun w => in_i mx d at_ s.size w (by omega) (by omega)
      by_cases i : inM d at_ s.size = true
      · rw [if_pos i]
        rw [i] at ci
        unfold inM at i; simp only [decide_eq_true_eq] at i
        obtain ⟨n, rfl⟩ : ∃ n : Nat, at_ = n := ⟨at_.toNat, by omega⟩
        have cs := fun w => store_i mx d s n w (by omega) (by omega)
        rw [Int.toNat_natCast]
        generalize putM d s n = q at *
        go_enter Try.func30, Try.ntmps30
        go_wp2_with (first
          | (go_at_call 59; (fail_if_success (have _ := hb3)); have _ := hb2; (with_reducible refine (cs _).mono ?_); rintro e w3 ⟨rfl, hb3⟩; obtain ⟨hc3, hf3⟩ := bcell hb3; have hz3_0_0 : w.heap.size < w3.heap.size := (by have := hb3.size; first | omega | (simp at this; omega)); have hz3_0_1 : w.heap.size + 1 < w3.heap.size := (by have := hb3.size; first | omega | (simp at this; omega)))
          | (go_at_call 52; (fail_if_success (have _ := hb2)); have _ := hb1; (with_reducible refine (ci _).mono ?_); rintro e w2 ⟨rfl, hb2⟩; obtain ⟨hc2, hf2⟩ := bcell hb2; have hz2_0_0 : w.heap.size < w2.heap.size := (by have := hb2.size; first | omega | (simp at this; omega)); have hz2_0_1 : w.heap.size + 1 < w2.heap.size := (by have := hb2.size; first | omega | (simp at this; omega)))
          | (go_at_call 51; (fail_if_success (have _ := hb1)); (with_reducible refine (cg _).mono ?_); rintro e w1 ⟨rfl, hb1⟩; obtain ⟨hc1, hf1⟩ := bcell hb1; have hz1_0_0 : w.heap.size < w1.heap.size := (by have := hb1.size; first | omega | (simp at this; omega)); have hz1_0_1 : w.heap.size + 1 < w1.heap.size := (by have := hb1.size; first | omega | (simp at this; omega))))
        refine bodyPost_ret (v := stV (mx, q, 0)) (by simp [results, Try.results30, go_sem, hc1, hf1, hz1_0_0, hz1_0_1, hc2, hf2, hz2_0_0, hz2_0_1, hc3, hf3, hz3_0_0, hz3_0_1]) rfl ⟨rfl, ?_⟩
        repeat (first | (with_reducible exact Below.refl _ _) | (with_reducible refine below_alloc ?_ _) | (with_reducible refine below_drew1 ?_) | (with_reducible refine pw_below_drewN ?_ _) | (with_reducible refine below_set ?_ (by omega)) | (with_reducible refine below_step ?_ hb3) | (with_reducible refine below_step ?_ hb2) | (with_reducible refine below_step ?_ hb1))
      · rw [if_neg i]
        rw [Bool.not_eq_true] at i
        rw [i] at ci
        go_enter Try.func30, Try.ntmps30
        go_wp2_with (first
          | (go_at_call 52; (fail_if_success (have _ := hb2)); have _ := hb1; (with_reducible refine (ci _).mono ?_); rintro e w2 ⟨rfl, hb2⟩; obtain ⟨hc2, hf2⟩ := bcell hb2; have hz2_0_0 : w.heap.size < w2.heap.size := (by have := hb2.size; first | omega | (simp at this; omega)); have hz2_0_1 : w.heap.size + 1 < w2.heap.size := (by have := hb2.size; first | omega | (simp at this; omega)))
          | (go_at_call 51; (fail_if_success (have _ := hb1)); (with_reducible refine (cg _).mono ?_); rintro e w1 ⟨rfl, hb1⟩; obtain ⟨hc1, hf1⟩ := bcell hb1; have hz1_0_0 : w.heap.size < w1.heap.size := (by have := hb1.size; first | omega | (simp at this; omega)); have hz1_0_1 : w.heap.size + 1 < w1.heap.size := (by have := hb1.size; first | omega | (simp at this; omega))))
        refine bodyPost_ret (v := stV (mx, d, 2)) (by simp [results, Try.results30, go_sem, hc1, hf1, hz1_0_0, hz1_0_1, hc2, hf2, hz2_0_0, hz2_0_1]) rfl ⟨rfl, ?_⟩
        repeat (first | (with_reducible exact Below.refl _ _) | (with_reducible refine below_alloc ?_ _) | (with_reducible refine below_drew1 ?_) | (with_reducible refine pw_below_drewN ?_ _) | (with_reducible refine below_set ?_ (by omega)) | (with_reducible refine below_step ?_ hb2) | (with_reducible refine below_step ?_ hb1))
  · rw [if_neg g]
    simp only [if_neg g] at co
    rw [Bool.not_eq_true] at g
    rw [g] at cg
    go_enter Try.func30, Try.ntmps30
    go_wp2_with (first
      | (go_at_call 58; (fail_if_success (have _ := hb2)); have _ := hb1; (with_reducible refine (co _).mono ?_); rintro e w2 ⟨rfl, hb2⟩; obtain ⟨hc2, hf2⟩ := bcell hb2; have hz2_0_0 : w.heap.size < w2.heap.size := (by have := hb2.size; first | omega | (simp at this; omega)); have hz2_0_1 : w.heap.size + 1 < w2.heap.size := (by have := hb2.size; first | omega | (simp at this; omega)))
      | (go_at_call 51; (fail_if_success (have _ := hb1)); (with_reducible refine (cg _).mono ?_); rintro e w1 ⟨rfl, hb1⟩; obtain ⟨hc1, hf1⟩ := bcell hb1; have hz1_0_0 : w.heap.size < w1.heap.size := (by have := hb1.size; first | omega | (simp at this; omega)); have hz1_0_1 : w.heap.size + 1 < w1.heap.size := (by have := hb1.size; first | omega | (simp at this; omega))))
    refine bodyPost_ret (v := stV (0, ⟨#[]⟩, 1)) (by simp [results, Try.results30, go_sem, hc1, hf1, hz1_0_0, hz1_0_1, hc2, hf2, hz2_0_0, hz2_0_1]) rfl ⟨rfl, ?_⟩
    repeat (first | (with_reducible exact Below.refl _ _) | (with_reducible refine below_alloc ?_ _) | (with_reducible refine below_drew1 ?_) | (with_reducible refine pw_below_drewN ?_ _) | (with_reducible refine below_set ?_ (by omega)) | (with_reducible refine below_step ?_ hb2) | (with_reducible refine below_step ?_ hb1))
set_option maxRecDepth 100000 in
set_option maxHeartbeats 4000000 in
theorem law_StoreBytes (mx : Int) (d : ByteArray) (at_ : Int) (s : ByteArray) (w : World) : Calls Try.prog 8 #[.agg #[.int .i64 mx, .string d], .int .i64 at_, .string s] w fun e w' => e = .returned (.bool true) ∧ Below w.heap.size w w' := by
  have cz := fun w => szm mx d 1048576 w
  by_cases z : (s.size : Int) > 1048576
  · skip
    go_enter Try.func8, Try.ntmps8
    go_wp2
    refine bodyPost_ret (v := .bool true) (by simp [results, Try.results8, go_sem]) rfl ⟨rfl, ?_⟩
    repeat (first | (with_reducible exact Below.refl _ _) | (with_reducible refine below_alloc ?_ _) | (with_reducible refine below_drew1 ?_) | (with_reducible refine pw_below_drewN ?_ _) | (with_reducible refine below_set ?_ (by omega)))
  · skip
    by_cases z : wrap64 (1048576 - (d.size : Int)) < 0
    · simp only [if_pos z] at cz
      go_enter Try.func8, Try.ntmps8
      go_wp2_with (first
        | (go_at_call 21; (fail_if_success (have _ := hb1)); (with_reducible refine (cz _).mono ?_); rintro e w1 ⟨rfl, hb1⟩; obtain ⟨hc1, hf1⟩ := bcell hb1; have hz1_0_0 : w.heap.size < w1.heap.size := (by have := hb1.size; first | omega | (simp at this; omega))))
      refine bodyPost_ret (v := .bool true) (by simp [results, Try.results8, go_sem, hc1, hf1, hz1_0_0]) rfl ⟨rfl, ?_⟩
      repeat (first | (with_reducible exact Below.refl _ _) | (with_reducible refine below_alloc ?_ _) | (with_reducible refine below_drew1 ?_) | (with_reducible refine pw_below_drewN ?_ _) | (with_reducible refine below_set ?_ (by omega)) | (with_reducible refine below_step ?_ hb1))
    · simp only [if_neg z] at cz
      generalize wrap64 (1048576 - (d.size : Int)) = q at *
      have cs := fun w => stb_s mx d at_ s w
      have ci := fun w => stb_i mx d at_ s w
      generalize stM mx d at_ s = r at *
      obtain ⟨x, y, c⟩ := r
      simp only [stV] at cs ci
      go_enter Try.func8, Try.ntmps8
      go_wp2_with (first
        | (go_at_call 31; (fail_if_success (have _ := hb6)); have _ := hb5; (with_reducible refine (eqm x y _).mono ?_); rintro e w6 ⟨rfl, hb6⟩; obtain ⟨hc6, hf6⟩ := bcell hb6; have hz6_0_0 : w.heap.size < w6.heap.size := (by have := hb6.size; first | omega | (simp at this; omega)); have hz6_3_0 : w3.heap.size < w6.heap.size := (by have := hb6.size; first | omega | (simp at this; omega)); have hz6_5_0 : w5.heap.size < w6.heap.size := (by have := hb6.size; first | omega | (simp at this; omega)))
        | (go_at_call 30; (fail_if_success (have _ := hb5)); have _ := hb4; (with_reducible refine (ci _).mono ?_); rintro e w5 ⟨rfl, hb5⟩; obtain ⟨hc5, hf5⟩ := bcell hb5; have hz5_0_0 : w.heap.size < w5.heap.size := (by have := hb5.size; first | omega | (simp at this; omega)); have hz5_3_0 : w3.heap.size < w5.heap.size := (by have := hb5.size; first | omega | (simp at this; omega)))
        | (go_at_call 23; (fail_if_success (have _ := hb4)); have _ := hb3; (with_reducible refine (tom mx d _).mono ?_); rintro e w4 ⟨rfl, hb4⟩; obtain ⟨hc4, hf4⟩ := bcell hb4; have hz4_0_0 : w.heap.size < w4.heap.size := (by have := hb4.size; first | omega | (simp at this; omega)); have hz4_3_0 : w3.heap.size < w4.heap.size := (by have := hb4.size; first | omega | (simp at this; omega)))
        | (go_at_call 29; (fail_if_success (have _ := hb3)); have _ := hb2; (with_reducible refine (cs _).mono ?_); rintro e w3 ⟨rfl, hb3⟩; obtain ⟨hc3, hf3⟩ := bcell hb3; have hz3_0_0 : w.heap.size < w3.heap.size := (by have := hb3.size; first | omega | (simp at this; omega)))
        | (go_at_call 23; (fail_if_success (have _ := hb2)); have _ := hb1; (with_reducible refine (tom mx d _).mono ?_); rintro e w2 ⟨rfl, hb2⟩; obtain ⟨hc2, hf2⟩ := bcell hb2; have hz2_0_0 : w.heap.size < w2.heap.size := (by have := hb2.size; first | omega | (simp at this; omega)))
        | (go_at_call 21; (fail_if_success (have _ := hb1)); (with_reducible refine (cz _).mono ?_); rintro e w1 ⟨rfl, hb1⟩; obtain ⟨hc1, hf1⟩ := bcell hb1; have hz1_0_0 : w.heap.size < w1.heap.size := (by have := hb1.size; first | omega | (simp at this; omega))))
      refine bodyPost_ret (v := .bool true) (by simp [results, Try.results8, go_sem, hc1, hf1, hz1_0_0, hc2, hf2, hz2_0_0, hc3, hf3, hz3_0_0, hc4, hf4, hz4_0_0, hz4_3_0, hc5, hf5, hz5_0_0, hz5_3_0, hc6, hf6, hz6_0_0, hz6_3_0, hz6_5_0]) rfl ⟨rfl, ?_⟩
      repeat (first | (with_reducible exact Below.refl _ _) | (with_reducible refine below_alloc ?_ _) | (with_reducible refine below_drew1 ?_) | (with_reducible refine pw_below_drewN ?_ _) | (with_reducible refine below_set ?_ (by omega)) | (with_reducible refine below_step ?_ hb6) | (with_reducible refine below_step ?_ hb5) | (with_reducible refine below_step ?_ hb4) | (with_reducible refine below_step ?_ hb3) | (with_reducible refine below_step ?_ hb2) | (with_reducible refine below_step ?_ hb1))
def cpM (mx : Int) (d : ByteArray) (t f n : Int) : Int × ByteArray × Int :=
  if goodM mx d = true then (if t < 0 ∨ f < 0 ∨ n < 0 then (mx, d, 1) else if inM d t n = true ∧ inM d f n = true then (mx, putM d (d.extract f.toNat (f.toNat + n.toNat)) t.toNat, 0) else (mx, d, 2)) else (0, ⟨#[]⟩, 1)
set_option maxRecDepth 100000 in
set_option maxHeartbeats 4000000 in
theorem cpw_s (mx : Int) (d : ByteArray) (t f n : Int) (w : World) : Calls Try.prog 32 #[.agg #[.int .i64 mx, .string d], .int .i64 t, .int .i64 f, .int .i64 n] w fun e w' => e = .returned (stV (cpM mx d t f n)) ∧ Below w.heap.size w w' := by
  have cg := fun w => good_s mx d w
  unfold cpM
  by_cases g : goodM mx d = true
  · rw [if_pos g]
    have gz := goodM_size g
    rw [g] at cg
    clear g
    by_cases a1 : t < 0
    · rw [if_pos (Or.inl a1)]
      go_enter Try.func32, Try.ntmps32
      go_wp2_with (first
        | (go_at_call 49; (fail_if_success (have _ := hb1)); (with_reducible refine (cg _).mono ?_); rintro e w1 ⟨rfl, hb1⟩; obtain ⟨hc1, hf1⟩ := bcell hb1; have hz1_0_0 : w.heap.size < w1.heap.size := (by have := hb1.size; first | omega | (simp at this; omega)); have hz1_0_1 : w.heap.size + 1 < w1.heap.size := (by have := hb1.size; first | omega | (simp at this; omega))))
      refine bodyPost_ret (v := stV (mx, d, 1)) (by simp [results, Try.results32, go_sem, hc1, hf1, hz1_0_0, hz1_0_1]) rfl ⟨rfl, ?_⟩
      repeat (first | (with_reducible exact Below.refl _ _) | (with_reducible refine below_alloc ?_ _) | (with_reducible refine below_drew1 ?_) | (with_reducible refine pw_below_drewN ?_ _) | (with_reducible refine below_set ?_ (by omega)) | (with_reducible refine below_step ?_ hb1))
    by_cases a2 : f < 0
    · rw [if_pos (Or.inr (Or.inl a2))]
      go_enter Try.func32, Try.ntmps32
      go_wp2_with (first
        | (go_at_call 49; (fail_if_success (have _ := hb1)); (with_reducible refine (cg _).mono ?_); rintro e w1 ⟨rfl, hb1⟩; obtain ⟨hc1, hf1⟩ := bcell hb1; have hz1_0_0 : w.heap.size < w1.heap.size := (by have := hb1.size; first | omega | (simp at this; omega)); have hz1_0_1 : w.heap.size + 1 < w1.heap.size := (by have := hb1.size; first | omega | (simp at this; omega))))
      refine bodyPost_ret (v := stV (mx, d, 1)) (by simp [results, Try.results32, go_sem, hc1, hf1, hz1_0_0, hz1_0_1]) rfl ⟨rfl, ?_⟩
      repeat (first | (with_reducible exact Below.refl _ _) | (with_reducible refine below_alloc ?_ _) | (with_reducible refine below_drew1 ?_) | (with_reducible refine pw_below_drewN ?_ _) | (with_reducible refine below_set ?_ (by omega)) | (with_reducible refine below_step ?_ hb1))
    by_cases a3 : n < 0
    · rw [if_pos (Or.inr (Or.inr a3))]
      go_enter Try.func32, Try.ntmps32
      go_wp2_with (first
        | (go_at_call 49; (fail_if_success (have _ := hb1)); (with_reducible refine (cg _).mono ?_); rintro e w1 ⟨rfl, hb1⟩; obtain ⟨hc1, hf1⟩ := bcell hb1; have hz1_0_0 : w.heap.size < w1.heap.size := (by have := hb1.size; first | omega | (simp at this; omega)); have hz1_0_1 : w.heap.size + 1 < w1.heap.size := (by have := hb1.size; first | omega | (simp at this; omega))))
      refine bodyPost_ret (v := stV (mx, d, 1)) (by simp [results, Try.results32, go_sem, hc1, hf1, hz1_0_0, hz1_0_1]) rfl ⟨rfl, ?_⟩
      repeat (first | (with_reducible exact Below.refl _ _) | (with_reducible refine below_alloc ?_ _) | (with_reducible refine below_drew1 ?_) | (with_reducible refine pw_below_drewN ?_ _) | (with_reducible refine below_set ?_ (by omega)) | (with_reducible refine below_step ?_ hb1))
    rw [if_neg (by omega)]
    obtain ⟨T, rfl⟩ : ∃ T : Nat, t = T := ⟨t.toNat, by omega⟩
    obtain ⟨f, rfl⟩ : ∃ T : Nat, f = T := ⟨f.toNat, by omega⟩
    obtain ⟨n, rfl⟩ : ∃ T : Nat, n = T := ⟨n.toNat, by omega⟩
    have ci := fun w => in_s mx d T n w (by omega) (by omega)
    have cj := fun w => in_s mx d f n w (by omega) (by omega)
    simp only [Int.toNat_natCast]
    by_cases i : inM d T n = true
    · rw [i] at ci
      by_cases j : inM d f n = true
      · rw [j] at cj
        rw [if_pos ⟨i, j⟩]
        unfold inM at i j; simp only [decide_eq_true_eq] at i j
        have h1 : (f : Int) + (n : Int) ≤ (d.size : Int) := by omega
        have h2 : (f : Int) ≤ (d.size : Int) := by omega
        have cs := fun w => store_s mx d (d.extract f (f + n)) T w (by rw [ByteArray.size_extract]; omega) (by omega)
        generalize hq : putM d (d.extract f (f + n)) T = q at *
        clear hq i j
        go_enter Try.func32, Try.ntmps32
        go_wp2_with (first
          | (go_at_call 50; (fail_if_success (have _ := hb3)); have _ := hb2; (with_reducible refine (cj _).mono ?_); rintro e w3 ⟨rfl, hb3⟩; obtain ⟨hc3, hf3⟩ := bcell hb3; have hz3_0_0 : w.heap.size < w3.heap.size := (by have := hb3.size; first | omega | (simp at this; omega)); have hz3_0_1 : w.heap.size + 1 < w3.heap.size := (by have := hb3.size; first | omega | (simp at this; omega)))
          | (go_at_call 50; (fail_if_success (have _ := hb2)); have _ := hb1; (with_reducible refine (ci _).mono ?_); rintro e w2 ⟨rfl, hb2⟩; obtain ⟨hc2, hf2⟩ := bcell hb2; have hz2_0_0 : w.heap.size < w2.heap.size := (by have := hb2.size; first | omega | (simp at this; omega)); have hz2_0_1 : w.heap.size + 1 < w2.heap.size := (by have := hb2.size; first | omega | (simp at this; omega)))
          | (go_at_call 49; (fail_if_success (have _ := hb1)); (with_reducible refine (cg _).mono ?_); rintro e w1 ⟨rfl, hb1⟩; obtain ⟨hc1, hf1⟩ := bcell hb1; have hz1_0_0 : w.heap.size < w1.heap.size := (by have := hb1.size; first | omega | (simp at this; omega)); have hz1_0_1 : w.heap.size + 1 < w1.heap.size := (by have := hb1.size; first | omega | (simp at this; omega))))
        have hw : IntKind.i64.wrap ((f : Int) + (n : Int)) = (f : Int) + (n : Int) := by rw [IntKind.wrap_i64]; omega
        have ht : ((f : Int) + (n : Int)).toNat = f + n := by omega
        have h3 : (f : Int) ≤ (f : Int) + (n : Int) := by omega
        go_region_with (first | (go_at_call 57; (with_reducible refine (cs _).mono ?_); rintro e w4 ⟨rfl, hb4⟩; have hc4 : ∀ b o, b < w3.heap.size → w4.cell? ⟨b, o, none⟩ = w3.cell? ⟨b, o, none⟩ := (bcell hb4).1; have hf4 : ∀ b o, b < w3.heap.size → w4.frozen? ⟨b, o, none⟩ = w3.frozen? ⟨b, o, none⟩ := (bcell hb4).2; have hz4_0_0 : w.heap.size < w4.heap.size := (by have := hb4.size; first | omega | (simp at this; omega)); have hz4_0_1 : w.heap.size + 1 < w4.heap.size := (by have := hb4.size; first | omega | (simp at this; omega))))
        all_goals
          rename_i kk
          simp only [Exit.then]
          refine kk _ _ ?_
          go_wp2
          refine bodyPost_ret (v := stV (mx, q, 0)) (by simp [results, Try.results32, go_sem, hc1, hf1, hz1_0_0, hz1_0_1, hc2, hf2, hz2_0_0, hz2_0_1, hc3, hf3, hz3_0_0, hz3_0_1, hc4, hf4, hz4_0_0, hz4_0_1]) rfl ⟨rfl, ?_⟩
          repeat (first | (with_reducible exact Below.refl _ _) | (with_reducible refine below_alloc ?_ _) | (with_reducible refine below_drew1 ?_) | (with_reducible refine pw_below_drewN ?_ _) | (with_reducible refine below_set ?_ (by omega)) | (with_reducible refine below_step ?_ hb4) | (with_reducible refine below_step ?_ hb3) | (with_reducible refine below_step ?_ hb2) | (with_reducible refine below_step ?_ hb1))
      · rw [if_neg (fun h => j h.2)]
        rw [Bool.not_eq_true] at j
        rw [j] at cj
        go_enter Try.func32, Try.ntmps32
        go_wp2_with (first
          | (go_at_call 50; (fail_if_success (have _ := hb3)); have _ := hb2; (with_reducible refine (cj _).mono ?_); rintro e w3 ⟨rfl, hb3⟩; obtain ⟨hc3, hf3⟩ := bcell hb3; have hz3_0_0 : w.heap.size < w3.heap.size := (by have := hb3.size; first | omega | (simp at this; omega)); have hz3_0_1 : w.heap.size + 1 < w3.heap.size := (by have := hb3.size; first | omega | (simp at this; omega)))
          | (go_at_call 50; (fail_if_success (have _ := hb2)); have _ := hb1; (with_reducible refine (ci _).mono ?_); rintro e w2 ⟨rfl, hb2⟩; obtain ⟨hc2, hf2⟩ := bcell hb2; have hz2_0_0 : w.heap.size < w2.heap.size := (by have := hb2.size; first | omega | (simp at this; omega)); have hz2_0_1 : w.heap.size + 1 < w2.heap.size := (by have := hb2.size; first | omega | (simp at this; omega)))
          | (go_at_call 49; (fail_if_success (have _ := hb1)); (with_reducible refine (cg _).mono ?_); rintro e w1 ⟨rfl, hb1⟩; obtain ⟨hc1, hf1⟩ := bcell hb1; have hz1_0_0 : w.heap.size < w1.heap.size := (by have := hb1.size; first | omega | (simp at this; omega)); have hz1_0_1 : w.heap.size + 1 < w1.heap.size := (by have := hb1.size; first | omega | (simp at this; omega))))
        refine bodyPost_ret (v := stV (mx, d, 2)) (by simp [results, Try.results32, go_sem, hc1, hf1, hz1_0_0, hz1_0_1, hc2, hf2, hz2_0_0, hz2_0_1, hc3, hf3, hz3_0_0, hz3_0_1]) rfl ⟨rfl, ?_⟩
        repeat (first | (with_reducible exact Below.refl _ _) | (with_reducible refine below_alloc ?_ _) | (with_reducible refine below_drew1 ?_) | (with_reducible refine pw_below_drewN ?_ _) | (with_reducible refine below_set ?_ (by omega)) | (with_reducible refine below_step ?_ hb3) | (with_reducible refine below_step ?_ hb2) | (with_reducible refine below_step ?_ hb1))
    · rw [if_neg (fun h => i h.1)]
      rw [Bool.not_eq_true] at i
      rw [i] at ci
      go_enter Try.func32, Try.ntmps32
      go_wp2_with (first
        | (go_at_call 50; (fail_if_success (have _ := hb2)); have _ := hb1; (with_reducible refine (ci _).mono ?_); rintro e w2 ⟨rfl, hb2⟩; obtain ⟨hc2, hf2⟩ := bcell hb2; have hz2_0_0 : w.heap.size < w2.heap.size := (by have := hb2.size; first | omega | (simp at this; omega)); have hz2_0_1 : w.heap.size + 1 < w2.heap.size := (by have := hb2.size; first | omega | (simp at this; omega)))
        | (go_at_call 49; (fail_if_success (have _ := hb1)); (with_reducible refine (cg _).mono ?_); rintro e w1 ⟨rfl, hb1⟩; obtain ⟨hc1, hf1⟩ := bcell hb1; have hz1_0_0 : w.heap.size < w1.heap.size := (by have := hb1.size; first | omega | (simp at this; omega)); have hz1_0_1 : w.heap.size + 1 < w1.heap.size := (by have := hb1.size; first | omega | (simp at this; omega))))
      refine bodyPost_ret (v := stV (mx, d, 2)) (by simp [results, Try.results32, go_sem, hc1, hf1, hz1_0_0, hz1_0_1, hc2, hf2, hz2_0_0, hz2_0_1]) rfl ⟨rfl, ?_⟩
      repeat (first | (with_reducible exact Below.refl _ _) | (with_reducible refine below_alloc ?_ _) | (with_reducible refine below_drew1 ?_) | (with_reducible refine pw_below_drewN ?_ _) | (with_reducible refine below_set ?_ (by omega)) | (with_reducible refine below_step ?_ hb2) | (with_reducible refine below_step ?_ hb1))
  · rw [if_neg g]
    rw [Bool.not_eq_true] at g
    rw [g] at cg
    go_enter Try.func32, Try.ntmps32
    go_wp2_with (first
      | (go_at_call 49; (fail_if_success (have _ := hb1)); (with_reducible refine (cg _).mono ?_); rintro e w1 ⟨rfl, hb1⟩; obtain ⟨hc1, hf1⟩ := bcell hb1; have hz1_0_0 : w.heap.size < w1.heap.size := (by have := hb1.size; first | omega | (simp at this; omega)); have hz1_0_1 : w.heap.size + 1 < w1.heap.size := (by have := hb1.size; first | omega | (simp at this; omega))))
    refine bodyPost_ret (v := stV (0, ⟨#[]⟩, 1)) (by simp [results, Try.results32, go_sem, hc1, hf1, hz1_0_0, hz1_0_1]) rfl ⟨rfl, ?_⟩
    repeat (first | (with_reducible exact Below.refl _ _) | (with_reducible refine below_alloc ?_ _) | (with_reducible refine below_drew1 ?_) | (with_reducible refine pw_below_drewN ?_ _) | (with_reducible refine below_set ?_ (by omega)) | (with_reducible refine below_step ?_ hb1))
set_option maxRecDepth 100000 in
set_option maxHeartbeats 4000000 in
theorem cpw_i (mx : Int) (d : ByteArray) (t f n : Int) (w : World) : Calls Try.prog 33 #[.agg #[.int .i64 mx, .string d], .int .i64 t, .int .i64 f, .int .i64 n] w fun e w' => e = .returned (stV (cpM mx d t f n)) ∧ Below w.heap.size w w' := by
  have cg := fun w => good_i mx d w
  have co := fun w => orz mx d w
  unfold orzM at co
  unfold cpM
  by_cases g : goodM mx d = true
  · rw [if_pos g]
    have gz := goodM_size g
    rw [g] at cg
    simp only [if_pos g] at co
    clear g
    by_cases a1 : t < 0
    · rw [if_pos (Or.inl a1)]
      go_enter Try.func33, Try.ntmps33
      go_wp2_with (first
        | (go_at_call 58; (fail_if_success (have _ := hb2)); have _ := hb1; (with_reducible refine (co _).mono ?_); rintro e w2 ⟨rfl, hb2⟩; obtain ⟨hc2, hf2⟩ := bcell hb2; have hz2_0_0 : w.heap.size < w2.heap.size := (by have := hb2.size; first | omega | (simp at this; omega)); have hz2_0_1 : w.heap.size + 1 < w2.heap.size := (by have := hb2.size; first | omega | (simp at this; omega)))
        | (go_at_call 51; (fail_if_success (have _ := hb1)); (with_reducible refine (cg _).mono ?_); rintro e w1 ⟨rfl, hb1⟩; obtain ⟨hc1, hf1⟩ := bcell hb1; have hz1_0_0 : w.heap.size < w1.heap.size := (by have := hb1.size; first | omega | (simp at this; omega)); have hz1_0_1 : w.heap.size + 1 < w1.heap.size := (by have := hb1.size; first | omega | (simp at this; omega))))
      refine bodyPost_ret (v := stV (mx, d, 1)) (by simp [results, Try.results33, go_sem, hc1, hf1, hz1_0_0, hz1_0_1, hc2, hf2, hz2_0_0, hz2_0_1]) rfl ⟨rfl, ?_⟩
      repeat (first | (with_reducible exact Below.refl _ _) | (with_reducible refine below_alloc ?_ _) | (with_reducible refine below_drew1 ?_) | (with_reducible refine pw_below_drewN ?_ _) | (with_reducible refine below_set ?_ (by omega)) | (with_reducible refine below_step ?_ hb2) | (with_reducible refine below_step ?_ hb1))
    by_cases a2 : f < 0
    · rw [if_pos (Or.inr (Or.inl a2))]
      go_enter Try.func33, Try.ntmps33
      go_wp2_with (first
        | (go_at_call 58; (fail_if_success (have _ := hb2)); have _ := hb1; (with_reducible refine (co _).mono ?_); rintro e w2 ⟨rfl, hb2⟩; obtain ⟨hc2, hf2⟩ := bcell hb2; have hz2_0_0 : w.heap.size < w2.heap.size := (by have := hb2.size; first | omega | (simp at this; omega)); have hz2_0_1 : w.heap.size + 1 < w2.heap.size := (by have := hb2.size; first | omega | (simp at this; omega)))
        | (go_at_call 51; (fail_if_success (have _ := hb1)); (with_reducible refine (cg _).mono ?_); rintro e w1 ⟨rfl, hb1⟩; obtain ⟨hc1, hf1⟩ := bcell hb1; have hz1_0_0 : w.heap.size < w1.heap.size := (by have := hb1.size; first | omega | (simp at this; omega)); have hz1_0_1 : w.heap.size + 1 < w1.heap.size := (by have := hb1.size; first | omega | (simp at this; omega))))
      refine bodyPost_ret (v := stV (mx, d, 1)) (by simp [results, Try.results33, go_sem, hc1, hf1, hz1_0_0, hz1_0_1, hc2, hf2, hz2_0_0, hz2_0_1]) rfl ⟨rfl, ?_⟩
      repeat (first | (with_reducible exact Below.refl _ _) | (with_reducible refine below_alloc ?_ _) | (with_reducible refine below_drew1 ?_) | (with_reducible refine pw_below_drewN ?_ _) | (with_reducible refine below_set ?_ (by omega)) | (with_reducible refine below_step ?_ hb2) | (with_reducible refine below_step ?_ hb1))
    by_cases a3 : n < 0
    · rw [if_pos (Or.inr (Or.inr a3))]
      go_enter Try.func33, Try.ntmps33
      go_wp2_with (first
        | (go_at_call 58; (fail_if_success (have _ := hb2)); have _ := hb1; (with_reducible refine (co _).mono ?_); rintro e w2 ⟨rfl, hb2⟩; obtain ⟨hc2, hf2⟩ := bcell hb2; have hz2_0_0 : w.heap.size < w2.heap.size := (by have := hb2.size; first | omega | (simp at this; omega)); have hz2_0_1 : w.heap.size + 1 < w2.heap.size := (by have := hb2.size; first | omega | (simp at this; omega)))
        | (go_at_call 51; (fail_if_success (have _ := hb1)); (with_reducible refine (cg _).mono ?_); rintro e w1 ⟨rfl, hb1⟩; obtain ⟨hc1, hf1⟩ := bcell hb1; have hz1_0_0 : w.heap.size < w1.heap.size := (by have := hb1.size; first | omega | (simp at this; omega)); have hz1_0_1 : w.heap.size + 1 < w1.heap.size := (by have := hb1.size; first | omega | (simp at this; omega))))
      refine bodyPost_ret (v := stV (mx, d, 1)) (by simp [results, Try.results33, go_sem, hc1, hf1, hz1_0_0, hz1_0_1, hc2, hf2, hz2_0_0, hz2_0_1]) rfl ⟨rfl, ?_⟩
      repeat (first | (with_reducible exact Below.refl _ _) | (with_reducible refine below_alloc ?_ _) | (with_reducible refine below_drew1 ?_) | (with_reducible refine pw_below_drewN ?_ _) | (with_reducible refine below_set ?_ (by omega)) | (with_reducible refine below_step ?_ hb2) | (with_reducible refine below_step ?_ hb1))
    rw [if_neg (by omega)]
    obtain ⟨T, rfl⟩ : ∃ T : Nat, t = T := ⟨t.toNat, by omega⟩
    obtain ⟨f, rfl⟩ : ∃ T : Nat, f = T := ⟨f.toNat, by omega⟩
    obtain ⟨n, rfl⟩ : ∃ T : Nat, n = T := ⟨n.toNat, by omega⟩
    have ci := fun w => in_i mx d T n w (by omega) (by omega)
    have cj := fun w => in_i mx d f n w (by omega) (by omega)
    simp only [Int.toNat_natCast]
    by_cases i : inM d T n = true
    · rw [i] at ci
      by_cases j : inM d f n = true
      · rw [j] at cj
        rw [if_pos ⟨i, j⟩]
        unfold inM at i j; simp only [decide_eq_true_eq] at i j
        have h1 : (f : Int) + (n : Int) ≤ (d.size : Int) := by omega
        have h2 : (f : Int) ≤ (d.size : Int) := by omega
        have cs := fun w => store_i mx d (d.extract f (f + n)) T w (by rw [ByteArray.size_extract]; omega) (by omega)
        generalize hq : putM d (d.extract f (f + n)) T = q at *
        clear hq i j
        go_enter Try.func33, Try.ntmps33
        go_wp2_with (first
          | (go_at_call 52; (fail_if_success (have _ := hb3)); have _ := hb2; (with_reducible refine (cj _).mono ?_); rintro e w3 ⟨rfl, hb3⟩; obtain ⟨hc3, hf3⟩ := bcell hb3; have hz3_0_0 : w.heap.size < w3.heap.size := (by have := hb3.size; first | omega | (simp at this; omega)); have hz3_0_1 : w.heap.size + 1 < w3.heap.size := (by have := hb3.size; first | omega | (simp at this; omega)))
          | (go_at_call 52; (fail_if_success (have _ := hb2)); have _ := hb1; (with_reducible refine (ci _).mono ?_); rintro e w2 ⟨rfl, hb2⟩; obtain ⟨hc2, hf2⟩ := bcell hb2; have hz2_0_0 : w.heap.size < w2.heap.size := (by have := hb2.size; first | omega | (simp at this; omega)); have hz2_0_1 : w.heap.size + 1 < w2.heap.size := (by have := hb2.size; first | omega | (simp at this; omega)))
          | (go_at_call 51; (fail_if_success (have _ := hb1)); (with_reducible refine (cg _).mono ?_); rintro e w1 ⟨rfl, hb1⟩; obtain ⟨hc1, hf1⟩ := bcell hb1; have hz1_0_0 : w.heap.size < w1.heap.size := (by have := hb1.size; first | omega | (simp at this; omega)); have hz1_0_1 : w.heap.size + 1 < w1.heap.size := (by have := hb1.size; first | omega | (simp at this; omega))))
        have hw : IntKind.i64.wrap ((f : Int) + (n : Int)) = (f : Int) + (n : Int) := by rw [IntKind.wrap_i64]; omega
        have ht : ((f : Int) + (n : Int)).toNat = f + n := by omega
        have h3 : (f : Int) ≤ (f : Int) + (n : Int) := by omega
        go_region_with (first | (go_at_call 59; (with_reducible refine (cs _).mono ?_); rintro e w4 ⟨rfl, hb4⟩; have hc4 : ∀ b o, b < w3.heap.size → w4.cell? ⟨b, o, none⟩ = w3.cell? ⟨b, o, none⟩ := (bcell hb4).1; have hf4 : ∀ b o, b < w3.heap.size → w4.frozen? ⟨b, o, none⟩ = w3.frozen? ⟨b, o, none⟩ := (bcell hb4).2; have hz4_0_0 : w.heap.size < w4.heap.size := (by have := hb4.size; first | omega | (simp at this; omega)); have hz4_0_1 : w.heap.size + 1 < w4.heap.size := (by have := hb4.size; first | omega | (simp at this; omega))))
        all_goals
          rename_i kk
          simp only [Exit.then]
          refine kk _ _ ?_
          go_wp2
          refine bodyPost_ret (v := stV (mx, q, 0)) (by simp [results, Try.results33, go_sem, hc1, hf1, hz1_0_0, hz1_0_1, hc2, hf2, hz2_0_0, hz2_0_1, hc3, hf3, hz3_0_0, hz3_0_1, hc4, hf4, hz4_0_0, hz4_0_1]) rfl ⟨rfl, ?_⟩
          repeat (first | (with_reducible exact Below.refl _ _) | (with_reducible refine below_alloc ?_ _) | (with_reducible refine below_drew1 ?_) | (with_reducible refine pw_below_drewN ?_ _) | (with_reducible refine below_set ?_ (by omega)) | (with_reducible refine below_step ?_ hb4) | (with_reducible refine below_step ?_ hb3) | (with_reducible refine below_step ?_ hb2) | (with_reducible refine below_step ?_ hb1))
      · rw [if_neg (fun h => j h.2)]
        rw [Bool.not_eq_true] at j
        rw [j] at cj
        go_enter Try.func33, Try.ntmps33
        go_wp2_with (first
          | (go_at_call 52; (fail_if_success (have _ := hb3)); have _ := hb2; (with_reducible refine (cj _).mono ?_); rintro e w3 ⟨rfl, hb3⟩; obtain ⟨hc3, hf3⟩ := bcell hb3; have hz3_0_0 : w.heap.size < w3.heap.size := (by have := hb3.size; first | omega | (simp at this; omega)); have hz3_0_1 : w.heap.size + 1 < w3.heap.size := (by have := hb3.size; first | omega | (simp at this; omega)))
          | (go_at_call 52; (fail_if_success (have _ := hb2)); have _ := hb1; (with_reducible refine (ci _).mono ?_); rintro e w2 ⟨rfl, hb2⟩; obtain ⟨hc2, hf2⟩ := bcell hb2; have hz2_0_0 : w.heap.size < w2.heap.size := (by have := hb2.size; first | omega | (simp at this; omega)); have hz2_0_1 : w.heap.size + 1 < w2.heap.size := (by have := hb2.size; first | omega | (simp at this; omega)))
          | (go_at_call 51; (fail_if_success (have _ := hb1)); (with_reducible refine (cg _).mono ?_); rintro e w1 ⟨rfl, hb1⟩; obtain ⟨hc1, hf1⟩ := bcell hb1; have hz1_0_0 : w.heap.size < w1.heap.size := (by have := hb1.size; first | omega | (simp at this; omega)); have hz1_0_1 : w.heap.size + 1 < w1.heap.size := (by have := hb1.size; first | omega | (simp at this; omega))))
        refine bodyPost_ret (v := stV (mx, d, 2)) (by simp [results, Try.results33, go_sem, hc1, hf1, hz1_0_0, hz1_0_1, hc2, hf2, hz2_0_0, hz2_0_1, hc3, hf3, hz3_0_0, hz3_0_1]) rfl ⟨rfl, ?_⟩
        repeat (first | (with_reducible exact Below.refl _ _) | (with_reducible refine below_alloc ?_ _) | (with_reducible refine below_drew1 ?_) | (with_reducible refine pw_below_drewN ?_ _) | (with_reducible refine below_set ?_ (by omega)) | (with_reducible refine below_step ?_ hb3) | (with_reducible refine below_step ?_ hb2) | (with_reducible refine below_step ?_ hb1))
    · rw [if_neg (fun h => i h.1)]
      rw [Bool.not_eq_true] at i
      rw [i] at ci
      go_enter Try.func33, Try.ntmps33
      go_wp2_with (first
        | (go_at_call 52; (fail_if_success (have _ := hb2)); have _ := hb1; (with_reducible refine (ci _).mono ?_); rintro e w2 ⟨rfl, hb2⟩; obtain ⟨hc2, hf2⟩ := bcell hb2; have hz2_0_0 : w.heap.size < w2.heap.size := (by have := hb2.size; first | omega | (simp at this; omega)); have hz2_0_1 : w.heap.size + 1 < w2.heap.size := (by have := hb2.size; first | omega | (simp at this; omega)))
        | (go_at_call 51; (fail_if_success (have _ := hb1)); (with_reducible refine (cg _).mono ?_); rintro e w1 ⟨rfl, hb1⟩; obtain ⟨hc1, hf1⟩ := bcell hb1; have hz1_0_0 : w.heap.size < w1.heap.size := (by have := hb1.size; first | omega | (simp at this; omega)); have hz1_0_1 : w.heap.size + 1 < w1.heap.size := (by have := hb1.size; first | omega | (simp at this; omega))))
      refine bodyPost_ret (v := stV (mx, d, 2)) (by simp [results, Try.results33, go_sem, hc1, hf1, hz1_0_0, hz1_0_1, hc2, hf2, hz2_0_0, hz2_0_1]) rfl ⟨rfl, ?_⟩
      repeat (first | (with_reducible exact Below.refl _ _) | (with_reducible refine below_alloc ?_ _) | (with_reducible refine below_drew1 ?_) | (with_reducible refine pw_below_drewN ?_ _) | (with_reducible refine below_set ?_ (by omega)) | (with_reducible refine below_step ?_ hb2) | (with_reducible refine below_step ?_ hb1))
  · rw [if_neg g]
    simp only [if_neg g] at co
    rw [Bool.not_eq_true] at g
    rw [g] at cg
    go_enter Try.func33, Try.ntmps33
    go_wp2_with (first
      | (go_at_call 58; (fail_if_success (have _ := hb2)); have _ := hb1; (with_reducible refine (co _).mono ?_); rintro e w2 ⟨rfl, hb2⟩; obtain ⟨hc2, hf2⟩ := bcell hb2; have hz2_0_0 : w.heap.size < w2.heap.size := (by have := hb2.size; first | omega | (simp at this; omega)); have hz2_0_1 : w.heap.size + 1 < w2.heap.size := (by have := hb2.size; first | omega | (simp at this; omega)))
      | (go_at_call 51; (fail_if_success (have _ := hb1)); (with_reducible refine (cg _).mono ?_); rintro e w1 ⟨rfl, hb1⟩; obtain ⟨hc1, hf1⟩ := bcell hb1; have hz1_0_0 : w.heap.size < w1.heap.size := (by have := hb1.size; first | omega | (simp at this; omega)); have hz1_0_1 : w.heap.size + 1 < w1.heap.size := (by have := hb1.size; first | omega | (simp at this; omega))))
    refine bodyPost_ret (v := stV (0, ⟨#[]⟩, 1)) (by simp [results, Try.results33, go_sem, hc1, hf1, hz1_0_0, hz1_0_1, hc2, hf2, hz2_0_0, hz2_0_1]) rfl ⟨rfl, ?_⟩
    repeat (first | (with_reducible exact Below.refl _ _) | (with_reducible refine below_alloc ?_ _) | (with_reducible refine below_drew1 ?_) | (with_reducible refine pw_below_drewN ?_ _) | (with_reducible refine below_set ?_ (by omega)) | (with_reducible refine below_step ?_ hb2) | (with_reducible refine below_step ?_ hb1))
set_option maxRecDepth 100000 in
set_option maxHeartbeats 4000000 in
theorem law_CopyWithin (mx : Int) (d : ByteArray) (t f n : Int) (w : World) : Calls Try.prog 9 #[.agg #[.int .i64 mx, .string d], .int .i64 t, .int .i64 f, .int .i64 n] w fun e w' => e = .returned (.bool true) ∧ Below w.heap.size w w' := by
  have cz := fun w => szm mx d 1048576 w
  by_cases z : wrap64 (1048576 - (d.size : Int)) < 0
  · simp only [if_pos z] at cz
    go_enter Try.func9, Try.ntmps9
    go_wp2_with (first
      | (go_at_call 21; (fail_if_success (have _ := hb1)); (with_reducible refine (cz _).mono ?_); rintro e w1 ⟨rfl, hb1⟩; obtain ⟨hc1, hf1⟩ := bcell hb1; have hz1_0_0 : w.heap.size < w1.heap.size := (by have := hb1.size; first | omega | (simp at this; omega))))
    refine bodyPost_ret (v := .bool true) (by simp [results, Try.results9, go_sem, hc1, hf1, hz1_0_0]) rfl ⟨rfl, ?_⟩
    repeat (first | (with_reducible exact Below.refl _ _) | (with_reducible refine below_alloc ?_ _) | (with_reducible refine below_drew1 ?_) | (with_reducible refine pw_below_drewN ?_ _) | (with_reducible refine below_set ?_ (by omega)) | (with_reducible refine below_step ?_ hb1))
  · simp only [if_neg z] at cz
    generalize wrap64 (1048576 - (d.size : Int)) = q at *
    have cs := fun w => cpw_s mx d t f n w
    have ci := fun w => cpw_i mx d t f n w
    generalize cpM mx d t f n = r at *
    obtain ⟨x, y, c⟩ := r
    simp only [stV] at cs ci
    go_enter Try.func9, Try.ntmps9
    go_wp2_with (first
      | (go_at_call 31; (fail_if_success (have _ := hb6)); have _ := hb5; (with_reducible refine (eqm x y _).mono ?_); rintro e w6 ⟨rfl, hb6⟩; obtain ⟨hc6, hf6⟩ := bcell hb6; have hz6_0_0 : w.heap.size < w6.heap.size := (by have := hb6.size; first | omega | (simp at this; omega)); have hz6_3_0 : w3.heap.size < w6.heap.size := (by have := hb6.size; first | omega | (simp at this; omega)); have hz6_5_0 : w5.heap.size < w6.heap.size := (by have := hb6.size; first | omega | (simp at this; omega)))
      | (go_at_call 33; (fail_if_success (have _ := hb5)); have _ := hb4; (with_reducible refine (ci _).mono ?_); rintro e w5 ⟨rfl, hb5⟩; obtain ⟨hc5, hf5⟩ := bcell hb5; have hz5_0_0 : w.heap.size < w5.heap.size := (by have := hb5.size; first | omega | (simp at this; omega)); have hz5_3_0 : w3.heap.size < w5.heap.size := (by have := hb5.size; first | omega | (simp at this; omega)))
      | (go_at_call 23; (fail_if_success (have _ := hb4)); have _ := hb3; (with_reducible refine (tom mx d _).mono ?_); rintro e w4 ⟨rfl, hb4⟩; obtain ⟨hc4, hf4⟩ := bcell hb4; have hz4_0_0 : w.heap.size < w4.heap.size := (by have := hb4.size; first | omega | (simp at this; omega)); have hz4_3_0 : w3.heap.size < w4.heap.size := (by have := hb4.size; first | omega | (simp at this; omega)))
      | (go_at_call 32; (fail_if_success (have _ := hb3)); have _ := hb2; (with_reducible refine (cs _).mono ?_); rintro e w3 ⟨rfl, hb3⟩; obtain ⟨hc3, hf3⟩ := bcell hb3; have hz3_0_0 : w.heap.size < w3.heap.size := (by have := hb3.size; first | omega | (simp at this; omega)))
      | (go_at_call 23; (fail_if_success (have _ := hb2)); have _ := hb1; (with_reducible refine (tom mx d _).mono ?_); rintro e w2 ⟨rfl, hb2⟩; obtain ⟨hc2, hf2⟩ := bcell hb2; have hz2_0_0 : w.heap.size < w2.heap.size := (by have := hb2.size; first | omega | (simp at this; omega)))
      | (go_at_call 21; (fail_if_success (have _ := hb1)); (with_reducible refine (cz _).mono ?_); rintro e w1 ⟨rfl, hb1⟩; obtain ⟨hc1, hf1⟩ := bcell hb1; have hz1_0_0 : w.heap.size < w1.heap.size := (by have := hb1.size; first | omega | (simp at this; omega))))
    refine bodyPost_ret (v := .bool true) (by simp [results, Try.results9, go_sem, hc1, hf1, hz1_0_0, hc2, hf2, hz2_0_0, hc3, hf3, hz3_0_0, hc4, hf4, hz4_0_0, hz4_3_0, hc5, hf5, hz5_0_0, hz5_3_0, hc6, hf6, hz6_0_0, hz6_3_0, hz6_5_0]) rfl ⟨rfl, ?_⟩
    repeat (first | (with_reducible exact Below.refl _ _) | (with_reducible refine below_alloc ?_ _) | (with_reducible refine below_drew1 ?_) | (with_reducible refine pw_below_drewN ?_ _) | (with_reducible refine below_set ?_ (by omega)) | (with_reducible refine below_step ?_ hb6) | (with_reducible refine below_step ?_ hb5) | (with_reducible refine below_step ?_ hb4) | (with_reducible refine below_step ?_ hb3) | (with_reducible refine below_step ?_ hb2) | (with_reducible refine below_step ?_ hb1))

end Go.Proofs.Ythpmpjejjbhkjaa.OwnMem
