/- For every input that the given statement FnExactTakeUleb lets in, the statement's function comes to true: what the program's function gives is what the reference's gives; no condition beside the statement's own. -/
import Derived.Test.YtbchlolgphnmnaaPFnExactTakeUlebx2
import Derived.Test.YtbchlolgphnmnaaPlain3
namespace Go.Proofs.Ytbchlolgphnmnaa.Pure
open Go.RowKit Go.Proofs.Ytbchlolgphnmnaa.PFnExactTakeUleb Go.Proofs.YtbchlolgphnmnaaW.PrintWords Go.Proofs.YtbchlolgphnmnaaW.PrintLast
open Go
open Go.Proofs.YtbchlolgphnmnaaW.PrintMore
set_option linter.unusedVariables false
set_option linter.unusedSimpArgs false

theorem l1In_told (a b c : Int) : spec_l1In.f a b c = some (decide (b ≤ a ∧ a ≤ c)) := by
  unfold spec_l1In.f
  by_cases h : b ≤ a <;> simp [h]

/-! ### Reading numbers: both loops in step -/
theorem or_range (x y : Int) : 0 ≤ Go.bits .or .u64 x y ∧ Go.bits .or .u64 x y < 18446744073709551616 := by
  rw [Pl.bits_or_nat, Pl.wrap_u64]; omega
/-- The program's reading loop and the reference's are one, from any place on; and they end. -/
theorem takeU_ev (s : ByteArray) (bits : Int) (hb0 : 1 ≤ bits) (hb1 : bits ≤ 64) (hs : s.size ≤ 140737488351232) : ∀ (m : Nat) (n i : Int), 0 ≤ i → i ≤ (bits + 6) / 7 → (bits + 6) / 7 - i = m →
    ∃ r : Int × Int, (0 ≤ r.2 ∧ r.2 ≤ s.size ∧ r.2 ≤ 10 ∧ 0 ≤ r.1 ∧ r.1 < 18446744073709551616) ∧ Ev (fun k => spec_l1TakeU.l0 k s bits ((bits + 6) / 7) n i) r ∧ Ev (fun k => impl_TakeUleb.l0 k s bits n i) r := by
  have hw : wrap64 (Int.tdiv (wrap64 (bits + 6)) 7) = (bits + 6) / 7 := by
    rw [Pl.w64 (n := bits + 6) (by omega) (by omega), Int.tdiv_eq_ediv_of_nonneg (by omega), Pl.w64 (by omega) (by omega)]
  have stop : ∀ (n i : Int), (¬ (i < (bits + 6) / 7 ∧ i < (s.size : Int))) → Ev (fun k => spec_l1TakeU.l0 k s bits ((bits + 6) / 7) n i) (0, 0) ∧ Ev (fun k => impl_TakeUleb.l0 k s bits n i) (0, 0) := by
    intro n i hi
    constructor
    · refine ⟨2, fun k hk => ?_⟩
      obtain ⟨k, rfl⟩ : ∃ j, k = j + 2 := ⟨k - 2, by omega⟩
      simp only [spec_l1TakeU.l0]
      by_cases h1 : i < (bits + 6) / 7
      · rw [if_pos h1, decide_eq_false (by omega)]; simp [spec_l1TakeU.j1]
      · rw [if_neg h1]; simp [spec_l1TakeU.j1]
    · refine ⟨2, fun k hk => ?_⟩
      obtain ⟨k, rfl⟩ : ∃ j, k = j + 2 := ⟨k - 2, by omega⟩
      simp only [impl_TakeUleb.l0]
      rw [hw]
      by_cases h1 : i < (s.size : Int)
      · rw [if_pos h1, decide_eq_false (by omega)]; simp [impl_TakeUleb.j2]
      · rw [if_neg h1]; simp [impl_TakeUleb.j2]
  intro m
  induction m with
  | zero =>
    intro n i h0 h1 hm
    obtain ⟨e1, e2⟩ := stop n i (by omega)
    exact ⟨(0, 0), by simp, e1, e2⟩
  | succ m ih =>
    intro n i h0 h1 hm
    by_cases hin : i < (s.size : Int)
    · have hlt : i < (bits + 6) / 7 := by omega
      have e7 : wrap64 (7 * i) = 7 * i := Pl.w64 (by omega) (by omega)
      have er : wrap64 (bits - 7 * i) = bits - 7 * i := Pl.w64 (by omega) (by omega)
      have eu : IntKind.u64.wrap (bits - 7 * i) = bits - 7 * i := by rw [Pl.wrap_u64]; omega
      have eu7 : IntKind.u64.wrap (7 * i) = 7 * i := by rw [Pl.wrap_u64]; omega
      have ei : wrap64 (i + 1) = i + 1 := Pl.w64 (by omega) (by omega)
      -- the test on the bits beyond
      obtain ⟨p, hp⟩ : ∃ p, IntKind.u64.wrap (Go.bits .and .u8 (bt s i) 127) = p := ⟨_, rfl⟩
      obtain ⟨c, hc⟩ : ∃ c : Bool, (if bits - 7 * i < 7 then (shr .u64 p (bits - 7 * i) != 0) else false) = c := ⟨_, rfl⟩
      have a1 : ∀ k, spec_l1TakeU.l0 (k + 3) s bits ((bits + 6) / 7) n i = if c = true then some (0, 0) else if bt s i < 128 then some (Go.bits .or .u64 n (shl .u64 p (7 * i)), i + 1) else spec_l1TakeU.l0 k s bits ((bits + 6) / 7) (Go.bits .or .u64 n (shl .u64 p (7 * i))) (i + 1) := by
        intro k
        simp only [spec_l1TakeU.l0]
        rw [if_pos hlt, decide_eq_true hin]
        simp only [spec_l1TakeU.j1, if_true, e7, er, eu, hp]
        rw [if_pos h0, if_pos hin]
        by_cases h7 : bits - 7 * i < 7
        · rw [if_pos h7] at hc
          rw [if_pos h7, if_pos (by omega), hc]
          simp only [spec_l1TakeU.j2, e7, eu7, ei]
          rw [if_pos (show 0 ≤ 7 * i by omega), if_pos h0, if_pos hin]
        · rw [if_neg h7] at hc
          rw [if_neg h7, hc]
          simp only [spec_l1TakeU.j2, e7, eu7, ei]
          rw [if_pos (show 0 ≤ 7 * i by omega), if_pos h0, if_pos hin]
      have a2 : ∀ k, impl_TakeUleb.l0 (k + 3) s bits n i = if c = true then some (0, 0) else if bt s i < 128 then some (Go.bits .or .u64 n (shl .u64 p (7 * i)), i + 1) else impl_TakeUleb.l0 k s bits (Go.bits .or .u64 n (shl .u64 p (7 * i))) (i + 1) := by
        intro k
        simp only [impl_TakeUleb.l0]
        rw [if_pos hin, hw, decide_eq_true hlt]
        simp only [impl_TakeUleb.j2, if_true, e7, er, hp]
        rw [if_pos h0, if_pos hin]
        by_cases h7 : bits - 7 * i < 7
        · rw [if_pos h7] at hc
          rw [if_pos h7, if_pos (by omega), hc]
          simp only [impl_TakeUleb.j3, e7, ei]
          rw [if_pos (show 0 ≤ 7 * i by omega), if_pos h0, if_pos hin]
        · rw [if_neg h7] at hc
          rw [if_neg h7, hc]
          simp only [impl_TakeUleb.j3, e7, ei]
          rw [if_pos (show 0 ≤ 7 * i by omega), if_pos h0, if_pos hin]
      by_cases hcc : c = true
      · refine ⟨(0, 0), by simp, Pl.ev_const 3 fun k => ?_, Pl.ev_const 3 fun k => ?_⟩
        · rw [a1, if_pos hcc]
        · rw [a2, if_pos hcc]
      · by_cases hlow : bt s i < 128
        · refine ⟨(Go.bits .or .u64 n (shl .u64 p (7 * i)), i + 1), ⟨by omega, by omega, by omega, or_range _ _⟩, Pl.ev_const 3 fun k => ?_, Pl.ev_const 3 fun k => ?_⟩
          · rw [a1, if_neg hcc, if_pos hlow]
          · rw [a2, if_neg hcc, if_pos hlow]
        · obtain ⟨r, hr, e1, e2⟩ := ih (Go.bits .or .u64 n (shl .u64 p (7 * i))) (i + 1) (by omega) (by omega) (by omega)
          refine ⟨r, hr, Pl.ev_skip 3 (fun k => ?_) e1, Pl.ev_skip 3 (fun k => ?_) e2⟩
          · rw [a1, if_neg hcc, if_neg hlow]
          · rw [a2, if_neg hcc, if_neg hlow]
    · obtain ⟨e1, e2⟩ := stop n i (by omega)
      exact ⟨(0, 0), by simp, e1, e2⟩
theorem takeU_told (s : ByteArray) (bits : Int) (hs : s.size ≤ 140737488351232) (hb0 : 1 ≤ bits) (hb1 : bits ≤ 64) : ∃ r : Int × Int, (0 ≤ r.2 ∧ r.2 ≤ s.size ∧ r.2 ≤ 10 ∧ 0 ≤ r.1 ∧ r.1 < 18446744073709551616) ∧ Ev (fun k => spec_l1TakeU.f k s bits) r ∧ Ev (fun k => impl_TakeUleb.f k s bits) r := by
  obtain ⟨r, hr, e1, e2⟩ := takeU_ev s bits hb0 hb1 hs ((bits + 6) / 7).toNat 0 0 (by omega) (by omega) (by omega)
  refine ⟨r, hr, ?_, Pl.ev_skip 1 (fun k => ?_) e2⟩
  · unfold spec_l1TakeU.f
    rw [Pl.w64 (n := bits + 6) (by omega) (by omega), Int.tdiv_eq_ediv_of_nonneg (by omega), Pl.w64 (by omega) (by omega)]
    exact e1
  · unfold impl_TakeUleb.f
    rw [if_neg (by omega), decide_eq_false (by omega)]
    simp only [impl_TakeUleb.j0]
    rw [if_neg (by decide)]

theorem takeU_all (s : ByteArray) (bits : Int) (hs : s.size ≤ 140737488351232) : ∃ r : Int × Int, Ev (fun k => spec_TakeUleb.f k s bits) r ∧ Ev (fun k => impl_TakeUleb.f k s bits) r := by
  by_cases hb : 1 ≤ bits ∧ bits ≤ 64
  · obtain ⟨r, _, e1, e2⟩ := takeU_told s bits hs hb.1 hb.2
    refine ⟨r, ?_, e2⟩
    unfold spec_TakeUleb.f
    simp only [l1In_told, Option.bind_some, decide_eq_true hb, if_true]
    exact e1.bind (Ev.now r)
  · refine ⟨(0, 0), ?_, Pl.ev_const 1 fun k => ?_⟩
    · unfold spec_TakeUleb.f
      simp only [l1In_told, Option.bind_some, decide_eq_false hb]
      exact Ev.now (0, 0)
    · unfold impl_TakeUleb.f
      by_cases h1 : bits < 1
      · rw [if_pos h1]; simp [impl_TakeUleb.j0]
      · rw [if_neg h1, decide_eq_true (by omega)]; simp [impl_TakeUleb.j0]
theorem FnExactTakeUleb : laws_FnExactTakeUleb.Pure := by
  intro a0 a1 hs h
  obtain ⟨r, e1, e2⟩ := takeU_all a0 a1 hs
  refine Ev.rounds ?_
  unfold laws_FnExactTakeUleb.f
  by_cases hl : (a0.size : Int) > 1048576
  · simp only [if_pos hl]; exact Ev.now true
  · simp only [if_neg hl]
    refine e1.bind (e2.bind ?_)
    simp only [eq_self, if_true]
    exact Ev.now true

end Go.Proofs.Ytbchlolgphnmnaa.Pure
