/- Unary operations on whole numbers: the law; no condition beside a number's range and the table's laying. -/
import Derived.Test.YtfmmmfddpfddoaaDoorOwnUnW
namespace Go.Proofs.YtfmmmfddpfddoaaDoor.OwnUnL
open Go Go.RowKit Go.Proofs.YtfmmmfddpfddoaaDoorW.PrintWords Go.Proofs.YtfmmmfddpfddoaaDoorW.PrintLast Go.Proofs.YtfmmmfddpfddoaaDoorW.PrintMore Go.Proofs.YtfmmmfddpfddoaaDoor.OwnPopP Go.Proofs.YtfmmmfddpfddoaaDoor.OwnUnP Go.Proofs.YtfmmmfddpfddoaaDoor.OwnUnW
attribute [local go_sem] max2_int min2_int max_two min_two
set_option linter.unusedVariables false
set_option linter.unusedSimpArgs false
theorem cut_wrap (k : Int) (x y : Int) (h : x = y) : cutM k x = cutM k y := by rw [h]
theorem w8 (x : Int) : IntKind.i8.wrap (x % 256) = IntKind.i8.wrap x := by
  simp [IntKind.wrap, IntKind.signed, IntKind.bits]
theorem w16 (x : Int) : IntKind.i16.wrap (IntKind.u16.wrap x) = IntKind.i16.wrap x := by
  simp [IntKind.wrap, IntKind.signed, IntKind.bits]
set_option maxRecDepth 100000 in
set_option maxHeartbeats 8000000 in
theorem un_i (k : Nat) (op : Int) (v : Nat) (hk : k = 32 ∨ k = 64) (h1 : 22 ≤ op) (h2 : op ≤ 27) (hv2 : v < 2 ^ k) (w : World) (hT : Tab w) : Calls Tryd.prog 12 #[.int .i64 k, .int .i64 op, .int .u64 v] w fun e w' => e = .returned (.int .u64 (R k op v)) ∧ w' = w := by
  have hv : v < 18446744073709551616 := by
    have : 2 ^ k ≤ 2 ^ 64 := Nat.pow_le_pow_right (by decide) (by omega)
    rw [show (2 : Nat) ^ 64 = 18446744073709551616 by decide] at this
    omega
  unfold R
  by_cases c : op = 22
  · rw [if_pos c]; subst c
    have hb := Lib.bitLen_le v k (by omega) hv2
    have cl := fun w => (Tryd.bits_Len64 (v : Int) w (by omega) (by omega))
    rw [Int.toNat_natCast] at cl
    generalize Lib.bitLen v = L at *
    have s1 : wrap64 ((k : Int) - (L : Int)) = ((k - L : Nat) : Int) := by rw [Pl.w64 (by omega) (by omega)]; omega
    have s2 : IntKind.u64.wrap ((k - L : Nat) : Int) = ((k - L : Nat) : Int) := by rw [IntKind.wrap_u64]; omega
    have s3 : Aside ((k : Int) - (L : Int) = ((k - L : Nat) : Int)) := by show (k : Int) - (L : Int) = ((k - L : Nat) : Int); omega
    generalize k - L = D at *
    clear s1 s2
    go_enter Tryd.func12, Tryd.ntmps12
    go_wp2_with (go_at_call 18; (with_reducible refine (cl _).mono ?_); rintro e w1 ⟨rfl, rfl⟩)
    go_ret
    exact ⟨congrArg (fun z => Ending.returned (.int .u64 z)) s3.out, rfl⟩
  rw [if_neg c]
  have n22 : (op == 22) = false := beq_eq_false_iff_ne.2 c
  by_cases c3 : op = 23
  · rw [if_pos c3]; subst c3
    have hz : Lib.ctz 64 v ≤ 64 := by
      by_cases v0 : v = 0
      · subst v0; exact Nat.le_refl _
      · exact Nat.le_of_lt (Lib.lowest_bit 64 v v0 (by rw [show (2 : Nat) ^ 64 = 18446744073709551616 by decide]; exact hv)).2
    have cl := tz v hv w hT
    unfold minC
    generalize Lib.ctz 64 v = L at *
    obtain ⟨D, hD⟩ : ∃ D, (if k < L then k else L) = D := ⟨_, rfl⟩
    rw [hD]
    have sD : Aside ((if k < L then k else L) = D) := hD
    clear hD
    clear hT
    go_enter Tryd.func12, Tryd.ntmps12
    go_wp2_with (go_at_call 19; (with_reducible refine cl.mono ?_); rintro e w1 ⟨rfl, rfl⟩)
    all_goals
      go_ret
      exact ⟨congrArg (fun z => Ending.returned (.int .u64 z)) (by have := sD.out; split at this <;> omega), rfl⟩
  rw [if_neg c3]
  have n23 : (op == 23) = false := beq_eq_false_iff_ne.2 c3
  clear hT
  by_cases c4 : op = 24
  · rw [if_pos c4]; subst c4
    have cl := fun w => ones v hv w
    have hl := pop_le 64 v
    generalize popN 64 v = D at *
    have s2 : IntKind.u64.wrap (D : Int) = (D : Int) := by rw [IntKind.wrap_u64]; omega
    go_enter Tryd.func12, Tryd.ntmps12
    go_wp2_with (go_at_call 20; (with_reducible refine (cl _).mono ?_); rintro e w1 ⟨rfl, rfl⟩)
    go_ret
    exact ⟨rfl, rfl⟩
  rw [if_neg c4]
  have n24 : (op == 24) = false := beq_eq_false_iff_ne.2 c4
  by_cases c5 : op = 25
  · rw [if_pos c5]; subst c5
    have cl := fun b w => truth_i b w
    by_cases z : v = 0
    · subst z
      rw [if_pos rfl]
      have zz : (((0 : Nat) : Int) == 0) = true := rfl
      have cl := fun w => cl true w
      simp only [if_true] at cl
      go_enter Tryd.func12, Tryd.ntmps12
      go_wp2_with (go_at_call 21; (with_reducible refine (cl _).mono ?_); rintro e w1 ⟨rfl, rfl⟩)
      go_ret
      exact ⟨rfl, rfl⟩
    · rw [if_neg z]
      have zz : ((v : Int) == 0) = false := beq_eq_false_iff_ne.2 (by omega)
      have cl := fun w => cl false w
      simp only [Bool.false_eq_true, if_false] at cl
      go_enter Tryd.func12, Tryd.ntmps12
      go_wp2_with (go_at_call 21; (with_reducible refine (cl _).mono ?_); rintro e w1 ⟨rfl, rfl⟩)
      go_ret
      exact ⟨rfl, rfl⟩
  rw [if_neg c5]
  have n25 : (op == 25) = false := beq_eq_false_iff_ne.2 c5
  have cl := fun x w => cut_i k x w
  by_cases c6 : op = 26
  · rw [if_pos c6, w8]; subst c6
    go_enter Tryd.func12, Tryd.ntmps12
    go_wp2_with (go_at_call 13; (with_reducible refine (cl _ _).mono ?_); rintro e w1 ⟨rfl, rfl⟩)
    go_ret
    exact ⟨rfl, rfl⟩
  · rw [if_neg c6, w16]
    have n26 : (op == 26) = false := beq_eq_false_iff_ne.2 c6
    go_enter Tryd.func12, Tryd.ntmps12
    go_wp2_with (go_at_call 13; (with_reducible refine (cl _ _).mono ?_); rintro e w1 ⟨rfl, rfl⟩)
    go_ret
    exact ⟨rfl, rfl⟩
theorem cut_lt (k a : Nat) (hk : k = 32 ∨ k = 64) (ha : a < 18446744073709551616) : ∃ v : Nat, cutM k a = v ∧ v < 2 ^ k := by
  rcases hk with rfl | rfl
  · refine ⟨a % 4294967296, rfl, ?_⟩
    rw [show (2 : Nat) ^ 32 = 4294967296 by decide]; omega
  · refine ⟨a, rfl, ?_⟩
    rw [show (2 : Nat) ^ 64 = 18446744073709551616 by decide]; exact ha
set_option maxRecDepth 100000 in
set_option maxHeartbeats 8000000 in
theorem i_yes (k : Nat) (op : Int) (a v : Nat) (hk : k = 32 ∨ k = 64) (h1 : 22 ≤ op) (h2 : op ≤ 27) (hv : cutM k a = v) (hv2 : v < 2 ^ k) (w : World) (hT : Tab w) : Calls Tryd.prog 6 #[.int .i64 k, .int .i64 op, .int .u64 a] w fun e w' => e = .returned (.tuple #[.int .u64 (R k op v), .int .i64 0]) ∧ w' = w := by
  have cg := fun w => good_i k w
  rw [decide_eq_true (show (k : Int) = 32 ∨ (k : Int) = 64 by omega)] at cg
  have cc := fun w => cut_i k a w
  rw [hv] at cc
  have cu := un_i k op v hk h1 h2 hv2 w hT
  generalize R k op v = r at *
  have d1 : decide (op < 22) = false := decide_eq_false (by omega)
  have d2 : decide (27 < op) = false := decide_eq_false (by omega)
  clear hT hv hv2
  go_enter Tryd.func6, Tryd.ntmps6
  go_wp2_with (first | (go_at_call 11; (with_reducible refine (cg _).mono ?_); rintro e w1 ⟨rfl, rfl⟩) | (go_at_call 13; (with_reducible refine (cc _).mono ?_); rintro e w1 ⟨rfl, rfl⟩) | (go_at_call 12; (with_reducible refine cu.mono ?_); rintro e w1 ⟨rfl, rfl⟩))
  go_ret2
  exact ⟨rfl, rfl⟩
set_option maxRecDepth 100000 in
set_option maxHeartbeats 8000000 in
theorem i_no (k op a : Int) (h : ¬ ((k = 32 ∨ k = 64) ∧ 22 ≤ op ∧ op ≤ 27)) (w : World) : Calls Tryd.prog 6 #[.int .i64 k, .int .i64 op, .int .u64 a] w fun e w' => e = .returned (.tuple #[.int .u64 0, .int .i64 3]) ∧ w' = w := by
  have cg := fun w => good_i k w
  by_cases hk : k = 32 ∨ k = 64
  · rw [decide_eq_true hk] at cg
    by_cases c1 : op < 22
    · have d1 : decide (op < 22) = true := decide_eq_true c1
      go_enter Tryd.func6, Tryd.ntmps6
      go_wp2_with (first | (go_at_call 11; (with_reducible refine (cg _).mono ?_); rintro e w1 ⟨rfl, rfl⟩))
      go_ret2
      exact ⟨rfl, rfl⟩
    · have d1 : decide (op < 22) = false := decide_eq_false c1
      have d2 : decide (27 < op) = true := decide_eq_true (by omega)
      go_enter Tryd.func6, Tryd.ntmps6
      go_wp2_with (first | (go_at_call 11; (with_reducible refine (cg _).mono ?_); rintro e w1 ⟨rfl, rfl⟩))
      go_ret2
      exact ⟨rfl, rfl⟩
  · rw [decide_eq_false hk] at cg
    clear h
    go_enter Tryd.func6, Tryd.ntmps6
    go_wp2_with (first | (go_at_call 11; (with_reducible refine (cg _).mono ?_); rintro e w1 ⟨rfl, rfl⟩))
    go_ret2
    exact ⟨rfl, rfl⟩
theorem s_no (k op a : Int) (h : ¬ ((k = 32 ∨ k = 64) ∧ 22 ≤ op ∧ op ≤ 27)) : PUnary.spec_Unary.f 0 k op a = some (0, 3) := by
  unfold PUnary.spec_Unary.f
  by_cases hk : k = 32 ∨ k = 64
  · have hb : PUnary.spec_l3Bits.f k = some true := by unfold PUnary.spec_l3Bits.f; rcases hk with rfl | rfl <;> rfl
    rw [hb]
    show (PUnary.spec_l3Unary.f 0 k op a).bind _ = _
    unfold PUnary.spec_l3Unary.f
    rw [mask_told]
    simp only [Option.bind_some, if_neg (show ¬ op = 22 by omega), if_neg (show ¬ op = 23 by omega), if_neg (show ¬ op = 24 by omega), if_neg (show ¬ op = 25 by omega), if_neg (show ¬ op = 26 by omega), if_neg (show ¬ op = 27 by omega)]
  · have hb : PUnary.spec_l3Bits.f k = some false := by
      unfold PUnary.spec_l3Bits.f
      rw [if_neg (fun c => hk (.inl c)), show (k == 64) = false from beq_eq_false_iff_ne.2 (fun c => hk (.inr c))]
    rw [hb]; rfl
theorem both (k op : Int) (a : Nat) (ha : a < 18446744073709551616) : ∃ r e : Int, (∀ w, Calls Tryd.prog 5 #[.int .i64 k, .int .i64 op, .int .u64 a] w fun en w' => en = .returned (.tuple #[.int .u64 r, .int .i64 e]) ∧ Below w.heap.size w w') ∧ (∀ w, Tab w → Calls Tryd.prog 6 #[.int .i64 k, .int .i64 op, .int .u64 a] w fun en w' => en = .returned (.tuple #[.int .u64 r, .int .i64 e]) ∧ w' = w) := by
  by_cases h : (k = 32 ∨ k = 64) ∧ 22 ≤ op ∧ op ≤ 27
  · obtain ⟨hk, h1, h2⟩ := h
    obtain ⟨n, rfl⟩ : ∃ n : Nat, k = n := ⟨k.toNat, by omega⟩
    have hk : n = 32 ∨ n = 64 := by omega
    obtain ⟨v, hv, hv2⟩ := cut_lt n a hk ha
    obtain ⟨K, hK⟩ := (told n op a v hk h1 h2 hv hv2).rounds
    exact ⟨_, _, fun w => (PUnary.spec_Unary.calls K _ _ _ _ _ w hK).mono fun e w' ⟨h1, h2⟩ => ⟨h1, h2.below⟩, fun w hT => i_yes n op a v hk h1 h2 hv hv2 w hT⟩
  · exact ⟨0, 3, fun w => (PUnary.spec_Unary.calls 0 _ _ _ _ _ w (s_no k op a h)).mono fun e w' ⟨h1, h2⟩ => ⟨h1, h2.below⟩, fun w hT => i_no k op a h w⟩
theorem Tab_below {w w' : World} (hs : 0 < w.heap.size) (h : Tab w) (hB : Below w.heap.size w w') : Tab w' := by
  intro j hj
  rw [hB.cell (p := ⟨0, j, none⟩) hs]
  exact h j hj
set_option maxRecDepth 100000 in
set_option maxHeartbeats 8000000 in
theorem law_Unary (k op : Int) (a : Nat) (ha : a < 18446744073709551616) (w : World) (hT : Tab w) (hs : 0 < w.heap.size) : Calls Tryd.prog 3 #[.int .i64 k, .int .i64 op, .int .u64 a] w fun en w' => en = .returned (.bool true) ∧ Below w.heap.size w w' := by
  obtain ⟨r, er, ks, ki⟩ := both k op a ha
  have ki2 : ∀ w2, Below w.heap.size w w2 → Calls Tryd.prog 6 #[.int .i64 k, .int .i64 op, .int .u64 a] w2 fun en w' => en = .returned (.tuple #[.int .u64 r, .int .i64 er]) ∧ w' = w2 := fun w2 B => ki w2 (Tab_below hs hT B)
  clear ki hT
  go_enter Tryd.func3, Tryd.ntmps3
  go_wp2_with (first | (go_at_call 5; (with_reducible refine (ks _).mono ?_); rintro e w2 ⟨rfl, B2⟩) | (go_at_call 6; (with_reducible refine (ki2 _ B2).mono ?_); rintro e w3 ⟨rfl, rfl⟩))
  go_ret
  exact ⟨rfl, B2⟩
end Go.Proofs.YtfmmmfddpfddoaaDoor.OwnUnL
