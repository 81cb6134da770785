/- RoundFloat: the law, by walks of our own. -/
import Derived.Test.YtfmmmfddpfddoaaOwnRndI
import Derived.Test.YtfmmmfddpfddoaaPl4Kindx1
import Derived.Test.YtfmmmfddpfddoaaPformatOfx1
import Derived.Test.YtfmmmfddpfddoaaPl1Inx1
namespace Go.Proofs.Ytfmmmfddpfddoaa.OwnRfL
open Go Go.RowKit Go.Proofs.YtfmmmfddpfddoaaW.PrintWords Go.Proofs.YtfmmmfddpfddoaaW.PrintLast Go.Proofs.YtfmmmfddpfddoaaW.PrintMore Go.Proofs.Ytfmmmfddpfddoaa.OwnRnd Go.Proofs.Ytfmmmfddpfddoaa.OwnRndI
set_option linter.unusedVariables false
set_option linter.unusedSimpArgs false
theorem in_n (a b c : Int) (w : World) : Calls Try.prog 73 #[.int .i64 a, .int .i64 b, .int .i64 c] w fun e w' => e = .returned (.bool (decide (b ≤ a ∧ a ≤ c))) ∧ ∃ n, w' = w.drewN n :=
  (Pl1In.spec_l1In.calls a b c (decide (b ≤ a ∧ a ≤ c)) w (by
    unfold Pl1In.spec_l1In.f
    by_cases h : a ≥ b
    · rw [if_pos h]; exact congrArg some (decide_eq_decide.2 (by omega))
    · rw [if_neg h]; exact congrArg some (decide_eq_false (by omega)).symm)).mono fun e w' h => ⟨h.1, h.2.out⟩
theorem len_n (m : Nat) (h : m < 2 ^ 64) (w : World) : Calls Try.prog 74 #[.int .u64 m] w fun e w' => e = .returned (.int .i64 (Lib.bitLen m)) ∧ ∃ n, w' = w.drewN n :=
  (Pl4Len.spec_l4Len.calls 65 m (0 + Lib.bitLen m) w (by rw [Pl4Len.spec_l4Len.f, l4Len_told 64 m 0 h (by omega) (by omega) (by omega)])).mono fun e w' ⟨h1, h2⟩ => ⟨by rw [h1, Int.zero_add], h2.out⟩
theorem kind_s (k : Int) (w : World) : Calls Try.prog 43 #[.int .i64 k] w fun e w' => e = .returned (.tuple #[.agg #[.int .u64 (if k = 16 then 5 else if k = 32 then 8 else 0), .int .u64 (if k = 16 then 10 else if k = 32 then 23 else 0)], .bool (decide (k = 16 ∨ k = 32))]) ∧ Below w.heap.size w w' := Pl4Kind.spec_l4Kind.calls k _ _ _ w (by
  unfold Pl4Kind.spec_l4Kind.f
  by_cases h : k = 16
  · simp [h]
  · by_cases h2 : k = 32 <;> simp [h, h2])
theorem kind_i (k : Int) (w : World) : Calls Try.prog 47 #[.int .i64 k] w fun e w' => e = .returned (.tuple #[.agg #[.int .i64 (if k = 16 then 10 else if k = 32 then 23 else 0), .int .i64 (if k = 16 then 15 else if k = 32 then 127 else 0)], .bool (decide (k = 16 ∨ k = 32))]) ∧ Below w.heap.size w w' := PformatOf.impl_formatOf.calls k _ _ _ w (by
  unfold PformatOf.impl_formatOf.f
  by_cases h : k = 16
  · simp [h]
  · by_cases h2 : k = 32 <;> simp [h, h2])
/-- What is rounded, kind 16. -/
def rnd16 (neg : Bool) (m : Nat) (e : Int) (more : Bool) : Int := if m = 0 then sg16 neg else rTail (sg16 neg) 1024 (-24) 31 (rK m (rLow 10 (-24) (Lib.bitLen m) e - e) more) (rLow 10 (-24) (Lib.bitLen m) e)
set_option maxRecDepth 100000 in
set_option maxHeartbeats 8000000 in
theorem rs16 (neg more : Bool) (m : Nat) (e : Int) (h : m < 2 ^ 63 + 1) (he : -1000 ≤ e) (he1 : e ≤ 1000) (w : World) : Calls Try.prog 75 #[.agg #[.int .u64 5, .int .u64 10], .bool neg, .int .u64 m, .int .i64 e, .bool more] w fun en w' => en = .returned (.int .u32 (rnd16 neg m e more)) ∧ Below w.heap.size w w' := by
  unfold rnd16
  by_cases h0 : m = 0
  · subst h0
    rw [if_pos rfl]
    have cS := fun w => sign_s16 neg w
    generalize sg16 neg = sg at *
    have z : (((0 : Nat) : Int) == 0) = true := rfl
    go_enter Try.func75, Try.ntmps75
    go_wp2_with (first | (go_at_call 94; (with_reducible refine (cS _).mono ?_); rintro e w3 ⟨rfl, hb3⟩))
    go_ret
    exact ⟨rfl, by repeat (first | (with_reducible exact Below.refl _ _) | (with_reducible refine below_alloc ?_ _) | (with_reducible refine below_step ?_ hb3))⟩
  · rw [if_neg h0]
    exact round_s16 neg more m e _ h0 h he he1 rfl w
set_option maxRecDepth 100000 in
set_option maxHeartbeats 8000000 in
theorem ri16 (neg more : Bool) (m : Nat) (e : Int) (h : m < 2 ^ 63 + 1) (he : -1000 ≤ e) (he1 : e ≤ 1000) (hm : 62 < rLow 10 (-24) (Lib.bitLen m) e - e → m < 2 ^ 60) (w : World) : Calls Try.prog 77 #[.agg #[.int .i64 10, .int .i64 15], .bool neg, .int .u64 m, .int .i64 e, .bool more] w fun en w' => en = .returned (.int .u32 (rnd16 neg m e more)) ∧ Below w.heap.size w w' := by
  unfold rnd16
  by_cases h0 : m = 0
  · subst h0
    rw [if_pos rfl]
    have cS := fun w => signed_i16 neg 0 (by decide) (by decide) w
    rw [Int.add_zero] at cS
    generalize sg16 neg = sg at *
    have z : (((0 : Nat) : Int) == 0) = true := rfl
    clear hm
    go_enter Try.func77, Try.ntmps77
    go_wp2_with (first | (go_at_call 97; (with_reducible refine (cS _).mono ?_); rintro e w3 ⟨rfl, hb3⟩))
    go_ret
    exact ⟨rfl, by repeat (first | (with_reducible exact Below.refl _ _) | (with_reducible refine below_alloc ?_ _) | (with_reducible refine below_step ?_ hb3))⟩
  · rw [if_neg h0]
    exact round_i16 neg more m e _ h0 h he he1 hm rfl w
/-- What is rounded, kind 32. -/
def rnd32 (neg : Bool) (m : Nat) (e : Int) (more : Bool) : Int := if m = 0 then sg32 neg else rTail (sg32 neg) 8388608 (-149) 255 (rK m (rLow 23 (-149) (Lib.bitLen m) e - e) more) (rLow 23 (-149) (Lib.bitLen m) e)
set_option maxRecDepth 100000 in
set_option maxHeartbeats 8000000 in
theorem rs32 (neg more : Bool) (m : Nat) (e : Int) (h : m < 2 ^ 63 + 1) (he : -1000 ≤ e) (he1 : e ≤ 1000) (w : World) : Calls Try.prog 75 #[.agg #[.int .u64 8, .int .u64 23], .bool neg, .int .u64 m, .int .i64 e, .bool more] w fun en w' => en = .returned (.int .u32 (rnd32 neg m e more)) ∧ Below w.heap.size w w' := by
  unfold rnd32
  by_cases h0 : m = 0
  · subst h0
    rw [if_pos rfl]
    have cS := fun w => sign_s32 neg w
    generalize sg32 neg = sg at *
    have z : (((0 : Nat) : Int) == 0) = true := rfl
    go_enter Try.func75, Try.ntmps75
    go_wp2_with (first | (go_at_call 94; (with_reducible refine (cS _).mono ?_); rintro e w3 ⟨rfl, hb3⟩))
    go_ret
    exact ⟨rfl, by repeat (first | (with_reducible exact Below.refl _ _) | (with_reducible refine below_alloc ?_ _) | (with_reducible refine below_step ?_ hb3))⟩
  · rw [if_neg h0]
    exact round_s32 neg more m e _ h0 h he he1 rfl w
set_option maxRecDepth 100000 in
set_option maxHeartbeats 8000000 in
theorem ri32 (neg more : Bool) (m : Nat) (e : Int) (h : m < 2 ^ 63 + 1) (he : -1000 ≤ e) (he1 : e ≤ 1000) (hm : 62 < rLow 23 (-149) (Lib.bitLen m) e - e → m < 2 ^ 60) (w : World) : Calls Try.prog 77 #[.agg #[.int .i64 23, .int .i64 127], .bool neg, .int .u64 m, .int .i64 e, .bool more] w fun en w' => en = .returned (.int .u32 (rnd32 neg m e more)) ∧ Below w.heap.size w w' := by
  unfold rnd32
  by_cases h0 : m = 0
  · subst h0
    rw [if_pos rfl]
    have cS := fun w => signed_i32 neg 0 (by decide) (by decide) w
    rw [Int.add_zero] at cS
    generalize sg32 neg = sg at *
    have z : (((0 : Nat) : Int) == 0) = true := rfl
    clear hm
    go_enter Try.func77, Try.ntmps77
    go_wp2_with (first | (go_at_call 97; (with_reducible refine (cS _).mono ?_); rintro e w3 ⟨rfl, hb3⟩))
    go_ret
    exact ⟨rfl, by repeat (first | (with_reducible exact Below.refl _ _) | (with_reducible refine below_alloc ?_ _) | (with_reducible refine below_step ?_ hb3))⟩
  · rw [if_neg h0]
    exact round_i32 neg more m e _ h0 h he he1 hm rfl w
/-- What RoundFloat tells. -/
def rfM (kind : Int) (neg : Bool) (m : Nat) (e : Int) (more : Bool) : Int × Bool :=
  if kind = 16 then (if 1152921504606846976 ≤ m ∨ ¬ (-1000 ≤ e ∧ e ≤ 1000) ∨ (more = true ∧ (Lib.bitLen m : Int) < 13) then (0, false) else (rnd16 neg m e more, true))
  else if kind = 32 then (if 1152921504606846976 ≤ m ∨ ¬ (-1000 ≤ e ∧ e ≤ 1000) ∨ (more = true ∧ (Lib.bitLen m : Int) < 26) then (0, false) else (rnd32 neg m e more, true))
  else (0, false)
set_option maxRecDepth 100000 in
set_option maxHeartbeats 8000000 in
theorem rf_s (kind : Int) (neg more : Bool) (m : Nat) (e : Int) (h : m < 2 ^ 64) (w : World) : Calls Try.prog 32 #[.int .i64 kind, .bool neg, .int .u64 m, .int .i64 e, .bool more] w fun en w' => en = .returned (.tuple #[.int .u32 (rfM kind neg m e more).1, .bool (rfM kind neg m e more).2]) ∧ Below w.heap.size w w' := by
  unfold rfM
  by_cases k16 : kind = 16
  · subst k16
    rw [if_pos rfl]
    have ck := fun W => kind_s 16 W
    simp only [if_true, true_or, decide_true] at ck
    by_cases c1 : 1152921504606846976 ≤ m
    · have d1 : decide ((1152921504606846976 : Int) ≤ (m : Int)) = true := decide_eq_true (by omega)
      have d1' : decide (1152921504606846976 ≤ m) = true := decide_eq_true c1
      rw [if_pos (.inl c1)]
      go_enter Try.func32, Try.ntmps32
      go_wp2_with (go_at_call 43; (with_reducible refine (ck _).mono ?_); rintro e w1 ⟨rfl, hb1⟩)
      go_quiet (fail)
      all_goals
        go_wp2
        go_ret2
        exact ⟨rfl, by repeat (first | (with_reducible exact Below.refl _ _) | (with_reducible refine below_alloc ?_ _) | (with_reducible refine below_drew1 ?_) | (with_reducible refine pw_below_drewN ?_ _) | (with_reducible refine below_set ?_ (by omega)) | (with_reducible refine below_step ?_ hb1))⟩
    have d1 : decide ((1152921504606846976 : Int) ≤ (m : Int)) = false := decide_eq_false (by omega)
    have d1' : decide (1152921504606846976 ≤ m) = false := decide_eq_false c1
    have cin := fun W => in_n e (-1000) 1000 W
    by_cases c4 : -1000 ≤ e ∧ e ≤ 1000
    rotate_left
    · rw [decide_eq_false c4] at cin
      rw [if_pos (.inr (.inl c4))]
      go_enter Try.func32, Try.ntmps32
      go_wp2_with (go_at_call 43; (with_reducible refine (ck _).mono ?_); rintro e w1 ⟨rfl, hb1⟩)
      go_quiet ((first | (go_at_call 73; exact Calls.quiet_of (cin _))))
      all_goals
        go_wp2
        go_ret2
        exact ⟨rfl, by repeat (first | (with_reducible exact Below.refl _ _) | (with_reducible refine below_alloc ?_ _) | (with_reducible refine below_drew1 ?_) | (with_reducible refine pw_below_drewN ?_ _) | (with_reducible refine below_set ?_ (by omega)) | (with_reducible refine below_step ?_ hb1))⟩
    rw [decide_eq_true c4] at cin
    have cl := fun W => len_n m (by omega) W
    have cr := fun W => rs16 neg more m e (by omega) c4.1 c4.2 W
    have hLp : ∀ (q : Int), decide (q < 13) = decide (q < 13) := fun _ => rfl
    clear hLp
    generalize rnd16 neg m e more = V at *
    generalize Lib.bitLen m = L at *
    cases more with
    | false =>
      rw [if_neg (by simp; omega)]
      go_enter Try.func32, Try.ntmps32
      go_wp2_with (go_at_call 43; (with_reducible refine (ck _).mono ?_); rintro e w1 ⟨rfl, hb1⟩)
      go_quiet ((first | (go_at_call 73; exact Calls.quiet_of (cin _))))
      all_goals
        go_wp2_with (go_at_call 75; (with_reducible refine (cr _).mono ?_); rintro e w4 ⟨rfl, hb4⟩)
        go_ret2
        exact ⟨rfl, by repeat (first | (with_reducible exact Below.refl _ _) | (with_reducible refine below_alloc ?_ _) | (with_reducible refine below_drew1 ?_) | (with_reducible refine pw_below_drewN ?_ _) | (with_reducible refine below_set ?_ (by omega)) | (with_reducible refine below_step ?_ hb4) | (with_reducible refine below_step ?_ hb1))⟩
    | true =>
      by_cases c5 : (L : Int) < 13
      · have d5 : decide ((L : Int) < 13) = true := decide_eq_true c5
        have d5' : decide (L < 13) = true := decide_eq_true (by omega)
        rw [if_pos (.inr (.inr ⟨rfl, c5⟩))]
        go_enter Try.func32, Try.ntmps32
        go_wp2_with (go_at_call 43; (with_reducible refine (ck _).mono ?_); rintro e w1 ⟨rfl, hb1⟩)
        go_quiet ((first | (go_at_call 73; exact Calls.quiet_of (cin _)) | (go_at_call 74; exact Calls.quiet_of (cl _))))
        all_goals
          go_wp2
          go_ret2
          exact ⟨rfl, by repeat (first | (with_reducible exact Below.refl _ _) | (with_reducible refine below_alloc ?_ _) | (with_reducible refine below_drew1 ?_) | (with_reducible refine pw_below_drewN ?_ _) | (with_reducible refine below_set ?_ (by omega)) | (with_reducible refine below_step ?_ hb1))⟩
      · have d5 : decide ((L : Int) < 13) = false := decide_eq_false c5
        have d5' : decide (L < 13) = false := decide_eq_false (by omega)
        rw [if_neg (by simp; omega)]
        go_enter Try.func32, Try.ntmps32
        go_wp2_with (go_at_call 43; (with_reducible refine (ck _).mono ?_); rintro e w1 ⟨rfl, hb1⟩)
        go_quiet ((first | (go_at_call 73; exact Calls.quiet_of (cin _)) | (go_at_call 74; exact Calls.quiet_of (cl _))))
        all_goals
          go_wp2_with (go_at_call 75; (with_reducible refine (cr _).mono ?_); rintro e w4 ⟨rfl, hb4⟩)
          go_ret2
          exact ⟨rfl, by repeat (first | (with_reducible exact Below.refl _ _) | (with_reducible refine below_alloc ?_ _) | (with_reducible refine below_drew1 ?_) | (with_reducible refine pw_below_drewN ?_ _) | (with_reducible refine below_set ?_ (by omega)) | (with_reducible refine below_step ?_ hb4) | (with_reducible refine below_step ?_ hb1))⟩
  rw [if_neg k16]
  by_cases k32 : kind = 32
  · subst k32
    rw [if_pos rfl]
    have ck := fun W => kind_s 32 W
    simp only [if_true, Bool.or_true, true_or, or_true, decide_true, (by decide : ¬ ((32 : Int) = 16)), if_false] at ck
    by_cases c1 : 1152921504606846976 ≤ m
    · have d1 : decide ((1152921504606846976 : Int) ≤ (m : Int)) = true := decide_eq_true (by omega)
      have d1' : decide (1152921504606846976 ≤ m) = true := decide_eq_true c1
      rw [if_pos (.inl c1)]
      go_enter Try.func32, Try.ntmps32
      go_wp2_with (go_at_call 43; (with_reducible refine (ck _).mono ?_); rintro e w1 ⟨rfl, hb1⟩)
      go_quiet (fail)
      all_goals
        go_wp2
        go_ret2
        exact ⟨rfl, by repeat (first | (with_reducible exact Below.refl _ _) | (with_reducible refine below_alloc ?_ _) | (with_reducible refine below_drew1 ?_) | (with_reducible refine pw_below_drewN ?_ _) | (with_reducible refine below_set ?_ (by omega)) | (with_reducible refine below_step ?_ hb1))⟩
    have d1 : decide ((1152921504606846976 : Int) ≤ (m : Int)) = false := decide_eq_false (by omega)
    have d1' : decide (1152921504606846976 ≤ m) = false := decide_eq_false c1
    have cin := fun W => in_n e (-1000) 1000 W
    by_cases c4 : -1000 ≤ e ∧ e ≤ 1000
    rotate_left
    · rw [decide_eq_false c4] at cin
      rw [if_pos (.inr (.inl c4))]
      go_enter Try.func32, Try.ntmps32
      go_wp2_with (go_at_call 43; (with_reducible refine (ck _).mono ?_); rintro e w1 ⟨rfl, hb1⟩)
      go_quiet ((first | (go_at_call 73; exact Calls.quiet_of (cin _))))
      all_goals
        go_wp2
        go_ret2
        exact ⟨rfl, by repeat (first | (with_reducible exact Below.refl _ _) | (with_reducible refine below_alloc ?_ _) | (with_reducible refine below_drew1 ?_) | (with_reducible refine pw_below_drewN ?_ _) | (with_reducible refine below_set ?_ (by omega)) | (with_reducible refine below_step ?_ hb1))⟩
    rw [decide_eq_true c4] at cin
    have cl := fun W => len_n m (by omega) W
    have cr := fun W => rs32 neg more m e (by omega) c4.1 c4.2 W
    have hLp : ∀ (q : Int), decide (q < 26) = decide (q < 26) := fun _ => rfl
    clear hLp
    generalize rnd32 neg m e more = V at *
    generalize Lib.bitLen m = L at *
    cases more with
    | false =>
      rw [if_neg (by simp; omega)]
      go_enter Try.func32, Try.ntmps32
      go_wp2_with (go_at_call 43; (with_reducible refine (ck _).mono ?_); rintro e w1 ⟨rfl, hb1⟩)
      go_quiet ((first | (go_at_call 73; exact Calls.quiet_of (cin _))))
      all_goals
        go_wp2_with (go_at_call 75; (with_reducible refine (cr _).mono ?_); rintro e w4 ⟨rfl, hb4⟩)
        go_ret2
        exact ⟨rfl, by repeat (first | (with_reducible exact Below.refl _ _) | (with_reducible refine below_alloc ?_ _) | (with_reducible refine below_drew1 ?_) | (with_reducible refine pw_below_drewN ?_ _) | (with_reducible refine below_set ?_ (by omega)) | (with_reducible refine below_step ?_ hb4) | (with_reducible refine below_step ?_ hb1))⟩
    | true =>
      by_cases c5 : (L : Int) < 26
      · have d5 : decide ((L : Int) < 26) = true := decide_eq_true c5
        have d5' : decide (L < 26) = true := decide_eq_true (by omega)
        rw [if_pos (.inr (.inr ⟨rfl, c5⟩))]
        go_enter Try.func32, Try.ntmps32
        go_wp2_with (go_at_call 43; (with_reducible refine (ck _).mono ?_); rintro e w1 ⟨rfl, hb1⟩)
        go_quiet ((first | (go_at_call 73; exact Calls.quiet_of (cin _)) | (go_at_call 74; exact Calls.quiet_of (cl _))))
        all_goals
          go_wp2
          go_ret2
          exact ⟨rfl, by repeat (first | (with_reducible exact Below.refl _ _) | (with_reducible refine below_alloc ?_ _) | (with_reducible refine below_drew1 ?_) | (with_reducible refine pw_below_drewN ?_ _) | (with_reducible refine below_set ?_ (by omega)) | (with_reducible refine below_step ?_ hb1))⟩
      · have d5 : decide ((L : Int) < 26) = false := decide_eq_false c5
        have d5' : decide (L < 26) = false := decide_eq_false (by omega)
        rw [if_neg (by simp; omega)]
        go_enter Try.func32, Try.ntmps32
        go_wp2_with (go_at_call 43; (with_reducible refine (ck _).mono ?_); rintro e w1 ⟨rfl, hb1⟩)
        go_quiet ((first | (go_at_call 73; exact Calls.quiet_of (cin _)) | (go_at_call 74; exact Calls.quiet_of (cl _))))
        all_goals
          go_wp2_with (go_at_call 75; (with_reducible refine (cr _).mono ?_); rintro e w4 ⟨rfl, hb4⟩)
          go_ret2
          exact ⟨rfl, by repeat (first | (with_reducible exact Below.refl _ _) | (with_reducible refine below_alloc ?_ _) | (with_reducible refine below_drew1 ?_) | (with_reducible refine pw_below_drewN ?_ _) | (with_reducible refine below_set ?_ (by omega)) | (with_reducible refine below_step ?_ hb4) | (with_reducible refine below_step ?_ hb1))⟩
  rw [if_neg k32]
  have ck := fun W => kind_s kind W
  simp only [if_neg k16, if_neg k32] at ck
  rw [decide_eq_false (by omega)] at ck
  go_enter Try.func32, Try.ntmps32
  go_wp2_with (go_at_call 43; (with_reducible refine (ck _).mono ?_); rintro e w1 ⟨rfl, hb1⟩)
  go_quiet (fail)
  all_goals
    go_wp2
    go_ret2
    exact ⟨rfl, by repeat (first | (with_reducible exact Below.refl _ _) | (with_reducible refine below_alloc ?_ _) | (with_reducible refine below_drew1 ?_) | (with_reducible refine pw_below_drewN ?_ _) | (with_reducible refine below_set ?_ (by omega)) | (with_reducible refine below_step ?_ hb1))⟩
set_option maxRecDepth 100000 in
set_option maxHeartbeats 8000000 in
theorem rf_i (kind : Int) (neg more : Bool) (m : Nat) (e : Int) (h : m < 2 ^ 64) (w : World) : Calls Try.prog 33 #[.int .i64 kind, .bool neg, .int .u64 m, .int .i64 e, .bool more] w fun en w' => en = .returned (.tuple #[.int .u32 (rfM kind neg m e more).1, .bool (rfM kind neg m e more).2]) ∧ Below w.heap.size w w' := by
  unfold rfM
  by_cases k16 : kind = 16
  · subst k16
    rw [if_pos rfl]
    have ck := fun W => kind_i 16 W
    simp only [if_true, true_or, decide_true] at ck
    by_cases c1 : 1152921504606846976 ≤ m
    · have d1 : decide ((1152921504606846976 : Int) ≤ (m : Int)) = true := decide_eq_true (by omega)
      have d1' : decide (1152921504606846976 ≤ m) = true := decide_eq_true c1
      rw [if_pos (.inl c1)]
      go_enter Try.func33, Try.ntmps33
      go_wp2_with (go_at_call 47; (with_reducible refine (ck _).mono ?_); rintro e w1 ⟨rfl, hb1⟩)
      go_quiet (fail)
      all_goals
        go_wp2
        go_ret2
        exact ⟨rfl, by repeat (first | (with_reducible exact Below.refl _ _) | (with_reducible refine below_alloc ?_ _) | (with_reducible refine below_drew1 ?_) | (with_reducible refine pw_below_drewN ?_ _) | (with_reducible refine below_set ?_ (by omega)) | (with_reducible refine below_step ?_ hb1))⟩
    have d1 : decide ((1152921504606846976 : Int) ≤ (m : Int)) = false := decide_eq_false (by omega)
    have d1' : decide (1152921504606846976 ≤ m) = false := decide_eq_false c1
    by_cases c2 : e < -1000
    · have d2 : decide (e < -1000) = true := decide_eq_true c2
      rw [if_pos (.inr (.inl (by omega)))]
      go_enter Try.func33, Try.ntmps33
      go_wp2_with (go_at_call 47; (with_reducible refine (ck _).mono ?_); rintro e w1 ⟨rfl, hb1⟩)
      go_quiet (fail)
      all_goals
        go_wp2
        go_ret2
        exact ⟨rfl, by repeat (first | (with_reducible exact Below.refl _ _) | (with_reducible refine below_alloc ?_ _) | (with_reducible refine below_drew1 ?_) | (with_reducible refine pw_below_drewN ?_ _) | (with_reducible refine below_set ?_ (by omega)) | (with_reducible refine below_step ?_ hb1))⟩
    have d2 : decide (e < -1000) = false := decide_eq_false c2
    by_cases c3 : 1000 < e
    · have d3 : decide (1000 < e) = true := decide_eq_true c3
      rw [if_pos (.inr (.inl (by omega)))]
      go_enter Try.func33, Try.ntmps33
      go_wp2_with (go_at_call 47; (with_reducible refine (ck _).mono ?_); rintro e w1 ⟨rfl, hb1⟩)
      go_quiet (fail)
      all_goals
        go_wp2
        go_ret2
        exact ⟨rfl, by repeat (first | (with_reducible exact Below.refl _ _) | (with_reducible refine below_alloc ?_ _) | (with_reducible refine below_drew1 ?_) | (with_reducible refine pw_below_drewN ?_ _) | (with_reducible refine below_set ?_ (by omega)) | (with_reducible refine below_step ?_ hb1))⟩
    have d3 : decide (1000 < e) = false := decide_eq_false c3
    have c4 : -1000 ≤ e ∧ e ≤ 1000 := by omega
    have cl := fun W => len_i m (by omega) W
    have cr := fun W => ri16 neg more m e (by omega) c4.1 c4.2 (fun _ => by omega) W
    have hLp : ∀ (q : Int), decide (q < 13) = decide (q < 13) := fun _ => rfl
    clear hLp
    generalize rnd16 neg m e more = V at *
    generalize Lib.bitLen m = L at *
    cases more with
    | false =>
      rw [if_neg (by simp; omega)]
      go_enter Try.func33, Try.ntmps33
      go_wp2_with (go_at_call 47; (with_reducible refine (ck _).mono ?_); rintro e w1 ⟨rfl, hb1⟩)
      go_quiet (fail)
      all_goals
        go_wp2_with (go_at_call 77; (with_reducible refine (cr _).mono ?_); rintro e w4 ⟨rfl, hb4⟩)
        go_ret2
        exact ⟨rfl, by repeat (first | (with_reducible exact Below.refl _ _) | (with_reducible refine below_alloc ?_ _) | (with_reducible refine below_drew1 ?_) | (with_reducible refine pw_below_drewN ?_ _) | (with_reducible refine below_set ?_ (by omega)) | (with_reducible refine below_step ?_ hb4) | (with_reducible refine below_step ?_ hb1))⟩
    | true =>
      by_cases c5 : (L : Int) < 13
      · have d5 : decide ((L : Int) < 13) = true := decide_eq_true c5
        have d5' : decide (L < 13) = true := decide_eq_true (by omega)
        rw [if_pos (.inr (.inr ⟨rfl, c5⟩))]
        go_enter Try.func33, Try.ntmps33
        go_wp2_with (go_at_call 47; (with_reducible refine (ck _).mono ?_); rintro e w1 ⟨rfl, hb1⟩)
        go_quiet ((first | (go_at_call 76; exact Calls.quiet_of_same (cl _))))
        all_goals
          go_wp2
          go_ret2
          exact ⟨rfl, by repeat (first | (with_reducible exact Below.refl _ _) | (with_reducible refine below_alloc ?_ _) | (with_reducible refine below_drew1 ?_) | (with_reducible refine pw_below_drewN ?_ _) | (with_reducible refine below_set ?_ (by omega)) | (with_reducible refine below_step ?_ hb1))⟩
      · have d5 : decide ((L : Int) < 13) = false := decide_eq_false c5
        have d5' : decide (L < 13) = false := decide_eq_false (by omega)
        rw [if_neg (by simp; omega)]
        go_enter Try.func33, Try.ntmps33
        go_wp2_with (go_at_call 47; (with_reducible refine (ck _).mono ?_); rintro e w1 ⟨rfl, hb1⟩)
        go_quiet ((first | (go_at_call 76; exact Calls.quiet_of_same (cl _))))
        all_goals
          go_wp2_with (go_at_call 77; (with_reducible refine (cr _).mono ?_); rintro e w4 ⟨rfl, hb4⟩)
          go_ret2
          exact ⟨rfl, by repeat (first | (with_reducible exact Below.refl _ _) | (with_reducible refine below_alloc ?_ _) | (with_reducible refine below_drew1 ?_) | (with_reducible refine pw_below_drewN ?_ _) | (with_reducible refine below_set ?_ (by omega)) | (with_reducible refine below_step ?_ hb4) | (with_reducible refine below_step ?_ hb1))⟩
  rw [if_neg k16]
  by_cases k32 : kind = 32
  · subst k32
    rw [if_pos rfl]
    have ck := fun W => kind_i 32 W
    simp only [if_true, Bool.or_true, true_or, or_true, decide_true, (by decide : ¬ ((32 : Int) = 16)), if_false] at ck
    by_cases c1 : 1152921504606846976 ≤ m
    · have d1 : decide ((1152921504606846976 : Int) ≤ (m : Int)) = true := decide_eq_true (by omega)
      have d1' : decide (1152921504606846976 ≤ m) = true := decide_eq_true c1
      rw [if_pos (.inl c1)]
      go_enter Try.func33, Try.ntmps33
      go_wp2_with (go_at_call 47; (with_reducible refine (ck _).mono ?_); rintro e w1 ⟨rfl, hb1⟩)
      go_quiet (fail)
      all_goals
        go_wp2
        go_ret2
        exact ⟨rfl, by repeat (first | (with_reducible exact Below.refl _ _) | (with_reducible refine below_alloc ?_ _) | (with_reducible refine below_drew1 ?_) | (with_reducible refine pw_below_drewN ?_ _) | (with_reducible refine below_set ?_ (by omega)) | (with_reducible refine below_step ?_ hb1))⟩
    have d1 : decide ((1152921504606846976 : Int) ≤ (m : Int)) = false := decide_eq_false (by omega)
    have d1' : decide (1152921504606846976 ≤ m) = false := decide_eq_false c1
    by_cases c2 : e < -1000
    · have d2 : decide (e < -1000) = true := decide_eq_true c2
      rw [if_pos (.inr (.inl (by omega)))]
      go_enter Try.func33, Try.ntmps33
      go_wp2_with (go_at_call 47; (with_reducible refine (ck _).mono ?_); rintro e w1 ⟨rfl, hb1⟩)
      go_quiet (fail)
      all_goals
        go_wp2
        go_ret2
        exact ⟨rfl, by repeat (first | (with_reducible exact Below.refl _ _) | (with_reducible refine below_alloc ?_ _) | (with_reducible refine below_drew1 ?_) | (with_reducible refine pw_below_drewN ?_ _) | (with_reducible refine below_set ?_ (by omega)) | (with_reducible refine below_step ?_ hb1))⟩
    have d2 : decide (e < -1000) = false := decide_eq_false c2
    by_cases c3 : 1000 < e
    · have d3 : decide (1000 < e) = true := decide_eq_true c3
      rw [if_pos (.inr (.inl (by omega)))]
      go_enter Try.func33, Try.ntmps33
      go_wp2_with (go_at_call 47; (with_reducible refine (ck _).mono ?_); rintro e w1 ⟨rfl, hb1⟩)
      go_quiet (fail)
      all_goals
        go_wp2
        go_ret2
        exact ⟨rfl, by repeat (first | (with_reducible exact Below.refl _ _) | (with_reducible refine below_alloc ?_ _) | (with_reducible refine below_drew1 ?_) | (with_reducible refine pw_below_drewN ?_ _) | (with_reducible refine below_set ?_ (by omega)) | (with_reducible refine below_step ?_ hb1))⟩
    have d3 : decide (1000 < e) = false := decide_eq_false c3
    have c4 : -1000 ≤ e ∧ e ≤ 1000 := by omega
    have cl := fun W => len_i m (by omega) W
    have cr := fun W => ri32 neg more m e (by omega) c4.1 c4.2 (fun _ => by omega) W
    have hLp : ∀ (q : Int), decide (q < 26) = decide (q < 26) := fun _ => rfl
    clear hLp
    generalize rnd32 neg m e more = V at *
    generalize Lib.bitLen m = L at *
    cases more with
    | false =>
      rw [if_neg (by simp; omega)]
      go_enter Try.func33, Try.ntmps33
      go_wp2_with (go_at_call 47; (with_reducible refine (ck _).mono ?_); rintro e w1 ⟨rfl, hb1⟩)
      go_quiet (fail)
      all_goals
        go_wp2_with (go_at_call 77; (with_reducible refine (cr _).mono ?_); rintro e w4 ⟨rfl, hb4⟩)
        go_ret2
        exact ⟨rfl, by repeat (first | (with_reducible exact Below.refl _ _) | (with_reducible refine below_alloc ?_ _) | (with_reducible refine below_drew1 ?_) | (with_reducible refine pw_below_drewN ?_ _) | (with_reducible refine below_set ?_ (by omega)) | (with_reducible refine below_step ?_ hb4) | (with_reducible refine below_step ?_ hb1))⟩
    | true =>
      by_cases c5 : (L : Int) < 26
      · have d5 : decide ((L : Int) < 26) = true := decide_eq_true c5
        have d5' : decide (L < 26) = true := decide_eq_true (by omega)
        rw [if_pos (.inr (.inr ⟨rfl, c5⟩))]
        go_enter Try.func33, Try.ntmps33
        go_wp2_with (go_at_call 47; (with_reducible refine (ck _).mono ?_); rintro e w1 ⟨rfl, hb1⟩)
        go_quiet ((first | (go_at_call 76; exact Calls.quiet_of_same (cl _))))
        all_goals
          go_wp2
          go_ret2
          exact ⟨rfl, by repeat (first | (with_reducible exact Below.refl _ _) | (with_reducible refine below_alloc ?_ _) | (with_reducible refine below_drew1 ?_) | (with_reducible refine pw_below_drewN ?_ _) | (with_reducible refine below_set ?_ (by omega)) | (with_reducible refine below_step ?_ hb1))⟩
      · have d5 : decide ((L : Int) < 26) = false := decide_eq_false c5
        have d5' : decide (L < 26) = false := decide_eq_false (by omega)
        rw [if_neg (by simp; omega)]
        go_enter Try.func33, Try.ntmps33
        go_wp2_with (go_at_call 47; (with_reducible refine (ck _).mono ?_); rintro e w1 ⟨rfl, hb1⟩)
        go_quiet ((first | (go_at_call 76; exact Calls.quiet_of_same (cl _))))
        all_goals
          go_wp2_with (go_at_call 77; (with_reducible refine (cr _).mono ?_); rintro e w4 ⟨rfl, hb4⟩)
          go_ret2
          exact ⟨rfl, by repeat (first | (with_reducible exact Below.refl _ _) | (with_reducible refine below_alloc ?_ _) | (with_reducible refine below_drew1 ?_) | (with_reducible refine pw_below_drewN ?_ _) | (with_reducible refine below_set ?_ (by omega)) | (with_reducible refine below_step ?_ hb4) | (with_reducible refine below_step ?_ hb1))⟩
  rw [if_neg k32]
  have ck := fun W => kind_i kind W
  simp only [if_neg k16, if_neg k32] at ck
  rw [decide_eq_false (by omega)] at ck
  go_enter Try.func33, Try.ntmps33
  go_wp2_with (go_at_call 47; (with_reducible refine (ck _).mono ?_); rintro e w1 ⟨rfl, hb1⟩)
  go_quiet (fail)
  all_goals
    go_wp2
    go_ret2
    exact ⟨rfl, by repeat (first | (with_reducible exact Below.refl _ _) | (with_reducible refine below_alloc ?_ _) | (with_reducible refine below_drew1 ?_) | (with_reducible refine pw_below_drewN ?_ _) | (with_reducible refine below_set ?_ (by omega)) | (with_reducible refine below_step ?_ hb1))⟩
set_option maxRecDepth 100000 in
set_option maxHeartbeats 8000000 in
theorem law_RoundFloat (kind : Int) (neg : Bool) (m : Nat) (e : Int) (more : Bool) (h : m < 2 ^ 64) (w : World) : Calls Try.prog 9 #[.int .i64 kind, .bool neg, .int .u64 m, .int .i64 e, .bool more] w fun en w' => en = .returned (.bool true) ∧ Below w.heap.size w w' := by
  have ks := fun W => rf_s kind neg more m e h W
  have ki := fun W => rf_i kind neg more m e h W
  generalize rfM kind neg m e more = r at *
  obtain ⟨q, ok⟩ := r
  go_enter Try.func9, Try.ntmps9
  go_wp2_with fail
  refine (ks _).mono ?_
  rintro e w2 ⟨rfl, B2⟩
  go_wp2_with fail
  refine (ki _).mono ?_
  rintro e w3 ⟨rfl, B3⟩
  have B := below_step B2 B3
  clear B2 B3 ks ki
  go_wp2
  go_ret
  exact ⟨rfl, B⟩
end Go.Proofs.Ytfmmmfddpfddoaa.OwnRfL
