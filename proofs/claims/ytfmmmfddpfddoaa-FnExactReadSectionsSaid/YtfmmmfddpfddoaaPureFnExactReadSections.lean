/- For every input that the given statement FnExactReadSections lets in, the statement's function comes to true: what the program's function gives is what the reference's gives; no condition beside the statement's own. -/
import Derived.Test.YtfmmmfddpfddoaaPFnExactReadSectionsx5
import Derived.Test.YtfmmmfddpfddoaaPlain5
namespace Go.Proofs.Ytfmmmfddpfddoaa.Pure
open Go.RowKit Go.Proofs.Ytfmmmfddpfddoaa.PFnExactReadSections Go.Proofs.YtfmmmfddpfddoaaW.PrintWords Go.Proofs.YtfmmmfddpfddoaaW.PrintLast
open Go
open Go.Proofs.YtfmmmfddpfddoaaW.PrintMore
set_option linter.unusedVariables false
set_option linter.unusedSimpArgs false

theorem l1In_told (a b c : Int) : spec_l1In.f a b c = some (decide (b ≤ a ∧ a ≤ c)) := by
  unfold spec_l1In.f
  by_cases h : b ≤ a <;> simp [h]

/-! ### Reading numbers: both loops in step -/
theorem or_range (x y : Int) : 0 ≤ Go.bits .or .u64 x y ∧ Go.bits .or .u64 x y < 18446744073709551616 := by
  rw [Pl.bits_or_nat, Pl.wrap_u64]; omega
/-- The program's reading loop and the reference's are one, from any place on; and they end. -/
theorem takeU_ev (s : ByteArray) (bits : Int) (hb0 : 1 ≤ bits) (hb1 : bits ≤ 64) (hs : s.size ≤ 140737488351232) : ∀ (m : Nat) (n i : Int), 0 ≤ i → i ≤ (bits + 6) / 7 → (bits + 6) / 7 - i = m →
    ∃ r : Int × Int, (0 ≤ r.2 ∧ r.2 ≤ s.size ∧ r.2 ≤ 10 ∧ 0 ≤ r.1 ∧ r.1 < 18446744073709551616) ∧ Ev (fun k => spec_l1TakeU.l0 k s bits ((bits + 6) / 7) n i) r ∧ Ev (fun k => impl_TakeUleb.l0 k s bits n i) r := by
  have hw : wrap64 (Int.tdiv (wrap64 (bits + 6)) 7) = (bits + 6) / 7 := by
    rw [Pl.w64 (n := bits + 6) (by omega) (by omega), Int.tdiv_eq_ediv_of_nonneg (by omega), Pl.w64 (by omega) (by omega)]
  have stop : ∀ (n i : Int), (¬ (i < (bits + 6) / 7 ∧ i < (s.size : Int))) → Ev (fun k => spec_l1TakeU.l0 k s bits ((bits + 6) / 7) n i) (0, 0) ∧ Ev (fun k => impl_TakeUleb.l0 k s bits n i) (0, 0) := by
    intro n i hi
    constructor
    · refine ⟨2, fun k hk => ?_⟩
      obtain ⟨k, rfl⟩ : ∃ j, k = j + 2 := ⟨k - 2, by omega⟩
      simp only [spec_l1TakeU.l0]
      by_cases h1 : i < (bits + 6) / 7
      · rw [if_pos h1, decide_eq_false (by omega)]; simp [spec_l1TakeU.j1]
      · rw [if_neg h1]; simp [spec_l1TakeU.j1]
    · refine ⟨2, fun k hk => ?_⟩
      obtain ⟨k, rfl⟩ : ∃ j, k = j + 2 := ⟨k - 2, by omega⟩
      simp only [impl_TakeUleb.l0]
      rw [hw]
      by_cases h1 : i < (s.size : Int)
      · rw [if_pos h1, decide_eq_false (by omega)]; simp [impl_TakeUleb.j2]
      · rw [if_neg h1]; simp [impl_TakeUleb.j2]
  intro m
  induction m with
  | zero =>
    intro n i h0 h1 hm
    obtain ⟨e1, e2⟩ := stop n i (by omega)
    exact ⟨(0, 0), by simp, e1, e2⟩
  | succ m ih =>
    intro n i h0 h1 hm
    by_cases hin : i < (s.size : Int)
    · have hlt : i < (bits + 6) / 7 := by omega
      have e7 : wrap64 (7 * i) = 7 * i := Pl.w64 (by omega) (by omega)
      have er : wrap64 (bits - 7 * i) = bits - 7 * i := Pl.w64 (by omega) (by omega)
      have eu : IntKind.u64.wrap (bits - 7 * i) = bits - 7 * i := by rw [Pl.wrap_u64]; omega
      have eu7 : IntKind.u64.wrap (7 * i) = 7 * i := by rw [Pl.wrap_u64]; omega
      have ei : wrap64 (i + 1) = i + 1 := Pl.w64 (by omega) (by omega)
      -- the test on the bits beyond
      obtain ⟨p, hp⟩ : ∃ p, IntKind.u64.wrap (Go.bits .and .u8 (bt s i) 127) = p := ⟨_, rfl⟩
      obtain ⟨c, hc⟩ : ∃ c : Bool, (if bits - 7 * i < 7 then (shr .u64 p (bits - 7 * i) != 0) else false) = c := ⟨_, rfl⟩
      have a1 : ∀ k, spec_l1TakeU.l0 (k + 3) s bits ((bits + 6) / 7) n i = if c = true then some (0, 0) else if bt s i < 128 then some (Go.bits .or .u64 n (shl .u64 p (7 * i)), i + 1) else spec_l1TakeU.l0 k s bits ((bits + 6) / 7) (Go.bits .or .u64 n (shl .u64 p (7 * i))) (i + 1) := by
        intro k
        simp only [spec_l1TakeU.l0]
        rw [if_pos hlt, decide_eq_true hin]
        simp only [spec_l1TakeU.j1, if_true, e7, er, eu, hp]
        rw [if_pos h0, if_pos hin]
        by_cases h7 : bits - 7 * i < 7
        · rw [if_pos h7] at hc
          rw [if_pos h7, if_pos (by omega), hc]
          simp only [spec_l1TakeU.j2, e7, eu7, ei]
          rw [if_pos (show 0 ≤ 7 * i by omega), if_pos h0, if_pos hin]
        · rw [if_neg h7] at hc
          rw [if_neg h7, hc]
          simp only [spec_l1TakeU.j2, e7, eu7, ei]
          rw [if_pos (show 0 ≤ 7 * i by omega), if_pos h0, if_pos hin]
      have a2 : ∀ k, impl_TakeUleb.l0 (k + 3) s bits n i = if c = true then some (0, 0) else if bt s i < 128 then some (Go.bits .or .u64 n (shl .u64 p (7 * i)), i + 1) else impl_TakeUleb.l0 k s bits (Go.bits .or .u64 n (shl .u64 p (7 * i))) (i + 1) := by
        intro k
        simp only [impl_TakeUleb.l0]
        rw [if_pos hin, hw, decide_eq_true hlt]
        simp only [impl_TakeUleb.j2, if_true, e7, er, hp]
        rw [if_pos h0, if_pos hin]
        by_cases h7 : bits - 7 * i < 7
        · rw [if_pos h7] at hc
          rw [if_pos h7, if_pos (by omega), hc]
          simp only [impl_TakeUleb.j3, e7, ei]
          rw [if_pos (show 0 ≤ 7 * i by omega), if_pos h0, if_pos hin]
        · rw [if_neg h7] at hc
          rw [if_neg h7, hc]
          simp only [impl_TakeUleb.j3, e7, ei]
          rw [if_pos (show 0 ≤ 7 * i by omega), if_pos h0, if_pos hin]
      by_cases hcc : c = true
      · refine ⟨(0, 0), by simp, Pl.ev_const 3 fun k => ?_, Pl.ev_const 3 fun k => ?_⟩
        · rw [a1, if_pos hcc]
        · rw [a2, if_pos hcc]
      · by_cases hlow : bt s i < 128
        · refine ⟨(Go.bits .or .u64 n (shl .u64 p (7 * i)), i + 1), ⟨by omega, by omega, by omega, or_range _ _⟩, Pl.ev_const 3 fun k => ?_, Pl.ev_const 3 fun k => ?_⟩
          · rw [a1, if_neg hcc, if_pos hlow]
          · rw [a2, if_neg hcc, if_pos hlow]
        · obtain ⟨r, hr, e1, e2⟩ := ih (Go.bits .or .u64 n (shl .u64 p (7 * i))) (i + 1) (by omega) (by omega) (by omega)
          refine ⟨r, hr, Pl.ev_skip 3 (fun k => ?_) e1, Pl.ev_skip 3 (fun k => ?_) e2⟩
          · rw [a1, if_neg hcc, if_neg hlow]
          · rw [a2, if_neg hcc, if_neg hlow]
    · obtain ⟨e1, e2⟩ := stop n i (by omega)
      exact ⟨(0, 0), by simp, e1, e2⟩
theorem takeU_told (s : ByteArray) (bits : Int) (hs : s.size ≤ 140737488351232) (hb0 : 1 ≤ bits) (hb1 : bits ≤ 64) : ∃ r : Int × Int, (0 ≤ r.2 ∧ r.2 ≤ s.size ∧ r.2 ≤ 10 ∧ 0 ≤ r.1 ∧ r.1 < 18446744073709551616) ∧ Ev (fun k => spec_l1TakeU.f k s bits) r ∧ Ev (fun k => impl_TakeUleb.f k s bits) r := by
  obtain ⟨r, hr, e1, e2⟩ := takeU_ev s bits hb0 hb1 hs ((bits + 6) / 7).toNat 0 0 (by omega) (by omega) (by omega)
  refine ⟨r, hr, ?_, Pl.ev_skip 1 (fun k => ?_) e2⟩
  · unfold spec_l1TakeU.f
    rw [Pl.w64 (n := bits + 6) (by omega) (by omega), Int.tdiv_eq_ediv_of_nonneg (by omega), Pl.w64 (by omega) (by omega)]
    exact e1
  · unfold impl_TakeUleb.f
    rw [if_neg (by omega), decide_eq_false (by omega)]
    simp only [impl_TakeUleb.j0]
    rw [if_neg (by decide)]

/-! ### Good sections: both loops tell one thing -/
abbrev SS := S87
abbrev rdS' := rd_T87
def okAt (l : List SS) (i : Nat) : Bool := decide (0 ≤ (rdS' l i).f0 ∧ (rdS' l i).f0 ≤ 20 ∧ ((rdS' l i).f1.size : Int) ≤ 1000 ∧ (0 < i → (rdS' l ((i - 1 : Nat) : Int)).f0 < (rdS' l i).f0))
def okFrom (l : List SS) : Nat → Nat → Bool
  | 0, _ => true
  | m + 1, i => okAt l i && okFrom l m (i + 1)
theorem prev_idx (i : Nat) (h : 0 < i) (hl : i ≤ 9223372036854775807) : wrap64 ((i : Int) - 1) = ((i - 1 : Nat) : Int) := by
  rw [Pl.w64 (by omega) (by omega)]; omega
theorem sections_spec (l : List SS) (hl : l.length ≤ 35184372088832) : Ev (fun k => spec_l1Sections.f k l) (okFrom l l.length 0 && decide (l.length ≤ 20)) := by
  have key : ∀ (m i : Nat), i + m = l.length → Ev (fun k => spec_l1Sections.l0 k l l (l.length : Int) (i : Int)) (okFrom l m i && decide (l.length ≤ 20)) := by
    intro m
    induction m with
    | zero =>
      intro i hi
      refine Pl.ev_const 1 fun k => ?_
      simp only [spec_l1Sections.l0]
      rw [if_neg (by omega)]
      simp only [okFrom, Bool.true_and, Option.some.injEq, decide_eq_decide]
      omega
    | succ m ih =>
      intro i hi
      have step : ∀ k, spec_l1Sections.l0 (k + 1) l l (l.length : Int) (i : Int) = if okAt l i = true then spec_l1Sections.l0 k l l (l.length : Int) ((i + 1 : Nat) : Int) else some false := by
        intro k
        simp only [spec_l1Sections.l0]
        rw [if_pos (by omega), if_pos (by omega), if_pos (by omega), Pl.w64s i l.length (by omega) (by omega)]
        simp only [l1In_told, Option.bind_some, okAt, decide_eq_true_eq]
        by_cases h1 : 0 ≤ (rdS' l i).f0 ∧ (rdS' l i).f0 ≤ 20
        · rw [if_pos h1]
          by_cases h2 : ((rdS' l i).f1.size : Int) > 1000
          · rw [if_pos h2, if_neg (by omega)]
          · rw [if_neg h2]
            by_cases h3 : 0 < i
            · rw [if_pos (show (i : Int) > 0 by omega), prev_idx i h3 (by omega), if_pos (by omega), if_pos (by omega)]
              by_cases h4 : (rdS' l ((i - 1 : Nat) : Int)).f0 ≥ (rdS' l i).f0
              · rw [if_pos h4, if_neg (by omega)]
              · rw [if_neg h4, if_pos ⟨h1.1, h1.2, by omega, fun _ => by omega⟩]
            · rw [if_neg (show ¬ (i : Int) > 0 by omega), if_pos ⟨h1.1, h1.2, by omega, fun h => absurd h h3⟩]
        · rw [if_neg h1, if_neg (by omega)]
      unfold okFrom
      by_cases ho : okAt l i = true
      · rw [ho, Bool.true_and]
        exact Pl.ev_skip 1 (fun k => by rw [step, if_pos ho]) (ih (i + 1) (by omega))
      · rw [Bool.eq_false_iff.2 ho, Bool.false_and, Bool.false_and]
        exact Pl.ev_const 1 (fun k => by rw [step, if_neg ho])
  have := key l.length 0 (by omega)
  unfold spec_l1Sections.f
  exact this
theorem sections_impl (l : List SS) (hl : l.length ≤ 35184372088832) : Ev (fun k => impl_sectionsOk.f k l) (okFrom l l.length 0 && decide (l.length ≤ 20)) := by
  have key : ∀ (m i : Nat), i + m = l.length → Ev (fun k => impl_sectionsOk.l0 k l l (l.length : Int) (i : Int)) (okFrom l m i) := by
    intro m
    induction m with
    | zero =>
      intro i hi
      refine Pl.ev_const 1 fun k => ?_
      simp only [impl_sectionsOk.l0]
      rw [if_neg (by omega)]
      rfl
    | succ m ih =>
      intro i hi
      have step : ∀ k, impl_sectionsOk.l0 (k + 1) l l (l.length : Int) (i : Int) = if okAt l i = true then impl_sectionsOk.l0 k l l (l.length : Int) ((i + 1 : Nat) : Int) else some false := by
        intro k
        simp only [impl_sectionsOk.l0]
        rw [if_pos (by omega), if_pos (by omega), if_pos (by omega), Pl.w64s i l.length (by omega) (by omega)]
        simp only [okAt, decide_eq_true_eq]
        by_cases h0 : (rdS' l i).f0 < 0
        · rw [if_pos h0, if_neg (by omega)]
        · by_cases h1 : (rdS' l i).f0 > 20
          · rw [if_neg h0, if_pos h1, if_neg (by omega)]
          · rw [if_neg h0, if_neg h1]
            by_cases h2 : ((rdS' l i).f1.size : Int) > 1000
            · rw [if_pos h2, if_neg (by omega)]
            · rw [if_neg h2]
              by_cases h3 : 0 < i
              · rw [if_pos (show (i : Int) > 0 by omega), prev_idx i h3 (by omega), if_pos (by omega), if_pos (by omega)]
                by_cases h4 : (rdS' l ((i - 1 : Nat) : Int)).f0 ≥ (rdS' l i).f0
                · rw [if_pos h4, if_neg (by omega)]
                · rw [if_neg h4, if_pos ⟨by omega, by omega, by omega, fun _ => by omega⟩]
              · rw [if_neg (show ¬ (i : Int) > 0 by omega), if_pos ⟨by omega, by omega, by omega, fun h => absurd h h3⟩]
      unfold okFrom
      by_cases ho : okAt l i = true
      · rw [ho, Bool.true_and]
        exact Pl.ev_skip 1 (fun k => by rw [step, if_pos ho]) (ih (i + 1) (by omega))
      · rw [Bool.eq_false_iff.2 ho, Bool.false_and]
        exact Pl.ev_const 1 (fun k => by rw [step, if_neg ho])
  have := key l.length 0 (by omega)
  unfold impl_sectionsOk.f
  by_cases h : (l.length : Int) > 20
  · simp only [if_pos h]
    rw [decide_eq_false (show ¬ l.length ≤ 20 by omega), Bool.and_false]
    exact Ev.now false
  · simp only [if_neg h]
    rw [decide_eq_true (show l.length ≤ 20 by omega), Bool.and_true]
    exact this

/-! ### Reading sections: both loops in step -/
theorem read_ev : ∀ (N : Nat) (x : ByteArray) (acc : List SS), x.size ≤ N → acc.length + x.size ≤ 4000 →
    ∃ r : List SS × Bool, r.1.length ≤ 4000 ∧ Ev (fun k => spec_ReadSections.l0 k x acc) r ∧ Ev (fun k => impl_ReadSections.l0 k x acc) r := by
  intro N
  induction N with
  | zero =>
    intro x acc hN hl
    have s1 := sections_spec acc (by omega)
    have s2 := sections_impl acc (by omega)
    have e1 : ∀ k, spec_ReadSections.l0 (k + 1) x acc = ((spec_l1Sections.f k acc).bind fun t115 => (if t115 = true then (some (acc, true)) else (some (([] : List SS), false)))) := by
      intro k; simp only [spec_ReadSections.l0]; rw [if_neg (by omega)]
    have e2 : ∀ k, impl_ReadSections.l0 (k + 1) x acc = ((impl_sectionsOk.f k acc).bind fun t115 => (if t115 = true then (some (acc, true)) else (some (([] : List SS), false)))) := by
      intro k; simp only [impl_ReadSections.l0]; rw [if_pos ((Pl.toList_nil x).2 (by omega))]
    cases hb : (okFrom acc acc.length 0 && decide (acc.length ≤ 20)) with
    | true =>
      rw [hb] at s1 s2
      exact ⟨(acc, true), by simp; omega, Pl.ev_skip 1 e1 (s1.bind (by simp only [if_true]; exact Ev.now _)), Pl.ev_skip 1 e2 (s2.bind (by simp only [if_true]; exact Ev.now _))⟩
    | false =>
      rw [hb] at s1 s2
      exact ⟨([], false), by simp, Pl.ev_skip 1 e1 (s1.bind (by simp only [Bool.false_eq_true, if_false]; exact Ev.now _)), Pl.ev_skip 1 e2 (s2.bind (by simp only [Bool.false_eq_true, if_false]; exact Ev.now _))⟩
  | succ N ih =>
    intro x acc hN hl
    by_cases hz : x.size = 0
    · exact ih x acc (by omega) hl
    · have hsz : (x.extract 1 x.size).size = x.size - 1 := by rw [ByteArray.size_extract]; omega
      obtain ⟨⟨n, took⟩, ⟨h0, h1, h2, h3, h4⟩, t1, t2⟩ := takeU_told (x.extract 1 x.size) 32 (by omega) (by decide) (by decide)
      simp only at h0 h1 h2 h3 h4
      rw [hsz] at h1
      have hne : ¬ x.toList = [] := fun h => hz ((Pl.toList_nil x).1 h)
      have w1 : wrap64 ((x.size : Int) - 1) = (x.size : Int) - 1 := Pl.w64 (by omega) (by omega)
      have w2 : wrap64 ((x.size : Int) - 1 - took) = (x.size : Int) - 1 - took := Pl.w64 (by omega) (by omega)
      have w3 : IntKind.u64.wrap ((x.size : Int) - 1 - took) = (x.size : Int) - 1 - took := by rw [Pl.wrap_u64]; omega
      have e1 : ∀ k, spec_ReadSections.l0 (k + 1) x acc = ((spec_l1TakeU.f k (x.extract 1 x.size) 32).bind fun bt110 => (if bt110.2 = 0 then (some (([] : List SS), false)) else (if bt110.1 > (IntKind.u64.wrap (wrap64 ((wrap64 ((x.size : Int) - 1)) - bt110.2))) then (some (([] : List SS), false)) else (if 0 < (x.size : Int) then (if 0 ≤ (wrap64 (1 + bt110.2)) then (if (wrap64 (1 + bt110.2)) ≤ (wrap64 ((wrap64 (1 + bt110.2)) + (wrap64 (bt110.1)))) then (if (wrap64 ((wrap64 (1 + bt110.2)) + (wrap64 (bt110.1)))) ≤ (x.size : Int) then (if acc.length < 5864062014805 then (if 0 ≤ (wrap64 ((wrap64 (1 + bt110.2)) + (wrap64 (bt110.1)))) then (spec_ReadSections.l0 k (x.extract ((wrap64 ((wrap64 (1 + bt110.2)) + (wrap64 (bt110.1)))) : Int).toNat x.size) (acc ++ [(⟨wrap64 (bt x 0), x.extract ((wrap64 (1 + bt110.2)) : Int).toNat ((wrap64 ((wrap64 (1 + bt110.2)) + (wrap64 (bt110.1)))) : Int).toNat⟩ : SS)])) else (none)) else (none)) else (none)) else (none)) else (none)) else (none))))) := by
        intro k; simp only [spec_ReadSections.l0]; rw [if_pos (by omega), if_pos (by omega)]
      have e2 : ∀ k, impl_ReadSections.l0 (k + 1) x acc = ((impl_takeText.f k (x.extract 1 x.size)).bind fun bt125 => (if bt125.2 = 0 then (some (([] : List SS), false)) else (if 0 < (x.size : Int) then (if acc.length < 5864062014805 then (if 0 ≤ (wrap64 (1 + bt125.2)) then (if (wrap64 (1 + bt125.2)) ≤ (x.size : Int) then (impl_ReadSections.l0 k (x.extract ((wrap64 (1 + bt125.2)) : Int).toNat x.size) (acc ++ [(⟨wrap64 (bt x 0), bt125.1⟩ : SS)])) else (none)) else (none)) else (none)) else (none)))) := by
        intro k; simp only [impl_ReadSections.l0]; rw [if_neg hne, if_pos (by omega)]
      by_cases c1 : took = 0
      · refine ⟨([], false), by simp, Pl.ev_skip 1 e1 (t1.bind ?_), Pl.ev_skip 1 e2 (Ev.bind (a := ((⟨#[]⟩ : ByteArray), (0 : Int))) (by unfold impl_takeText.f; refine t2.bind ?_; simp only [c1, if_true]; exact Ev.now _) ?_)⟩
        · simp only [c1, if_true]; exact Ev.now _
        · simp only [if_true]; exact Ev.now _
      · by_cases c2 : n > (x.size : Int) - 1 - took
        · refine ⟨([], false), by simp, Pl.ev_skip 1 e1 (t1.bind ?_), Pl.ev_skip 1 e2 (Ev.bind (a := ((⟨#[]⟩ : ByteArray), (0 : Int))) (by unfold impl_takeText.f; refine t2.bind ?_; simp only [c1, if_false, hsz]; rw [show ((x.size - 1 : Nat) : Int) = (x.size : Int) - 1 by omega, w2, w3, if_pos c2]; exact Ev.now _) ?_)⟩
          · simp only [c1, if_false, w1, w2, w3, if_pos c2]; exact Ev.now _
          · simp only [if_true]; exact Ev.now _
        · have v1 : wrap64 n = n := Pl.w64 (by omega) (by omega)
          have v2 : wrap64 (1 + took) = 1 + took := Pl.w64 (by omega) (by omega)
          have v3 : wrap64 (1 + took + n) = 1 + took + n := Pl.w64 (by omega) (by omega)
          have v4 : wrap64 (took + n) = took + n := Pl.w64 (by omega) (by omega)
          have v5 : wrap64 (1 + (took + n)) = 1 + took + n := by rw [Pl.w64 (by omega) (by omega)]; omega
          have hx : (x.extract 1 x.size).extract took.toNat (took + n).toNat = x.extract (1 + took).toNat (1 + took + n).toNat := by
            rw [ByteArray.extract_extract]
            congr 1 <;> omega
          have hsz2 : (x.extract (1 + took + n).toNat x.size).size = x.size - (1 + took + n).toNat := by rw [ByteArray.size_extract]; omega
          obtain ⟨r, hr, r1, r2⟩ := ih (x.extract (1 + took + n).toNat x.size) (acc ++ [(⟨wrap64 (bt x 0), x.extract (1 + took).toNat (1 + took + n).toNat⟩ : SS)]) (by omega) (by rw [List.length_append, List.length_singleton]; omega)
          refine ⟨r, hr, Pl.ev_skip 1 e1 (t1.bind ?_), Pl.ev_skip 1 e2 (Ev.bind (a := (x.extract (1 + took).toNat (1 + took + n).toNat, took + n)) (by unfold impl_takeText.f; refine t2.bind ?_; simp only [c1, if_false, hsz]; rw [show ((x.size - 1 : Nat) : Int) = (x.size : Int) - 1 by omega, w2, w3, if_neg c2, v1, v4, if_pos (by omega), if_pos (by omega), if_pos (by omega), hx]; exact Ev.now _) ?_)⟩
          · simp only [c1, if_false, w1, w2, w3, if_neg c2, v1, v2, v3]
            simp only [if_pos (show 0 < (x.size : Int) by omega), if_pos (show 0 ≤ 1 + took by omega), if_pos (show 1 + took ≤ 1 + took + n by omega), if_pos (show 1 + took + n ≤ (x.size : Int) by omega), if_pos (show acc.length < 5864062014805 by omega), if_pos (show 0 ≤ 1 + took + n by omega)]
            exact r1
          · simp only [v5]
            simp only [if_neg (show ¬ took + n = 0 by omega), if_pos (show 0 < (x.size : Int) by omega), if_pos (show acc.length < 5864062014805 by omega), if_pos (show 0 ≤ 1 + took + n by omega), if_pos (show 1 + took + n ≤ (x.size : Int) by omega)]
            exact r2
theorem read_told (x : ByteArray) : ∃ r : List SS × Bool, r.1.length ≤ 4000 ∧ Ev (fun k => spec_ReadSections.f k x) r ∧ Ev (fun k => impl_ReadSections.f k x) r := by
  unfold spec_ReadSections.f impl_ReadSections.f
  by_cases h : (x.size : Int) > 4000
  · exact ⟨([], false), by simp, by simp only [if_pos h]; exact Ev.now _, by simp only [if_pos h]; exact Ev.now _⟩
  · obtain ⟨r, hr, r1, r2⟩ := read_ev x.size x [] (Nat.le_refl _) (by simp; omega)
    exact ⟨r, hr, by simp only [if_neg h]; exact r1, by simp only [if_neg h]; exact r2⟩

/-! ### The statement's own marks: texts -/
theorem markText_l (m : Nat) : ∀ (x : Int) (y : ByteArray), 0 ≤ x → x < 10 ^ m → x < 1000000000000000000 → y.size + m ≤ 100 → ∃ t : ByteArray, Ev (fun k => laws_markText.l0 k x y) t := by
  induction m with
  | zero =>
    intro x y h0 h1 _ hy
    refine ⟨(⟨#[109]⟩ : ByteArray) ++ y, Pl.ev_const 1 fun k => ?_⟩
    simp only [laws_markText.l0]
    rw [if_neg (by omega), if_pos (by omega)]
  | succ m ih =>
    intro x y h0 h1 hb hy
    by_cases hx : x > 0
    · have hs : (strOfNums [(wrap64 (48 + Int.tmod x 10)) % 256]).size = 1 := by rw [Pl.strOfNums_size]; rfl
      have hd : Int.tdiv x 10 = x / 10 := Int.tdiv_eq_ediv_of_nonneg h0
      have hw : wrap64 (Int.tdiv x 10) = x / 10 := by rw [hd, Pl.w64 (by omega) (by omega)]
      obtain ⟨t, ht⟩ := ih (x / 10) (strOfNums [(wrap64 (48 + Int.tmod x 10)) % 256] ++ y) (by omega) (by rw [Int.pow_succ] at h1; omega) (by omega) (by rw [ByteArray.size_append, hs]; omega)
      refine ⟨t, Pl.ev_skip 1 (fun k => ?_) ht⟩
      simp only [laws_markText.l0]
      rw [if_pos hx]
      simp only [Option.bind_some]
      rw [if_pos (by rw [hs]; omega), hw]
    · refine ⟨(⟨#[109]⟩ : ByteArray) ++ y, Pl.ev_const 1 fun k => ?_⟩
      simp only [laws_markText.l0]
      rw [if_neg hx, if_pos (by omega)]
theorem markText_ends (x : Int) (h : 0 ≤ x ∧ x < 1000000000000000000) : ∃ t : ByteArray, Ev (fun k => laws_markText.f k x) t := by
  unfold laws_markText.f
  by_cases h0 : x ≤ 0
  · exact ⟨_, by simp only [if_pos h0]; exact Ev.now _⟩
  · simp only [if_neg h0]
    exact markText_l 18 x _ h.1 h.2 h.2 (by decide)
theorem markText_fn : ∃ T : Int → ByteArray, ∀ x : Int, 0 ≤ x ∧ x < 1000000000000000000 → Ev (fun k => laws_markText.f k x) (T x) := Pl.choose_fn (fun x h => markText_ends x h)

/-! ### The statement's own marks: sections -/
def markE (T : Int → ByteArray) (j : Nat) : SS := ⟨1 + 2 * (j : Int), T (2 + 2 * (j : Int))⟩
theorem rd_set (l : List SS) (i : Nat) (x : SS) (h : i < l.length) : rdS' (l.set i x) (i : Int) = x := by
  simp [rdS', rd_T87, List.getD_eq_getElem?_getD, h]
theorem take_set_succ (l : List SS) (i : Nat) (x : SS) (h : i < l.length) : (l.set i x).take (i + 1) = l.take i ++ [x] := by
  rw [List.take_succ_eq_append_getElem (by simpa using h), List.take_set_of_le (Nat.le_refl i)]
  simp
theorem mark_told (T : Int → ByteArray) (hT : ∀ x : Int, 0 ≤ x ∧ x < 1000000000000000000 → Ev (fun k => laws_markText.f k x) (T x)) (l : List SS) (hl : l.length ≤ 4000) :
    Ev (fun k => laws_markSectionS.f k l 1) (1 + 2 * (l.length : Int), (List.range l.length).map (markE T)) := by
  have key : ∀ (m i : Nat) (y : List SS), i + m = l.length → y.length = l.length → y.take i = (List.range i).map (markE T) →
      Ev (fun k => laws_markSectionS.l0 k y (1 + 2 * (i : Int)) (i : Int)) (1 + 2 * (l.length : Int), (List.range l.length).map (markE T)) := by
    intro m
    induction m with
    | zero =>
      intro i y hi hy ht
      obtain rfl : i = l.length := by omega
      refine Pl.ev_const 1 fun k => ?_
      simp only [laws_markSectionS.l0]
      rw [if_neg (by omega), ← ht, ← hy, List.take_length]
    | succ m ih =>
      intro i y hi hy ht
      have hil : i < y.length := by omega
      have h2 := ih (i + 1) (y.set i (markE T i)) (by omega) (by simp [hy]) (by rw [take_set_succ y i _ hil, ht, List.range_succ, List.map_append]; rfl)
      have w1 : wrap64 (1 + 2 * (i : Int) + 1) = 2 + 2 * (i : Int) := by rw [Pl.w64 (by omega) (by omega)]; omega
      have w2 : wrap64 (2 + 2 * (i : Int) + 1) = 1 + 2 * ((i + 1 : Nat) : Int) := by rw [Pl.w64 (by omega) (by omega)]; omega
      refine Pl.ev_skip 1 (f := fun k => (laws_markText.f k (2 + 2 * (i : Int))).bind fun t134 => laws_markSectionS.l0 k (y.set i (⟨1 + 2 * (i : Int), t134⟩ : SS)) (1 + 2 * ((i + 1 : Nat) : Int)) ((i + 1 : Nat) : Int)) (fun k => ?_) ((hT _ (by omega)).bind h2)
      show laws_markSectionS.l0 (k + 1) y _ _ = _
      simp only [laws_markSectionS.l0]
      rw [if_pos (by omega), if_pos (by omega)]
      simp only [Option.bind_some, w1, w2, Int.toNat_natCast, Pl.w64s i l.length (by omega) (by omega)]
      have e := rd_set y i (⟨1 + 2 * (i : Int), (rdS' y i).f1⟩ : SS) hil
      simp only [rdS'] at e
      simp only [e, List.set_set]
  unfold laws_markSectionS.f
  exact key l.length 0 l (by omega) rfl (by simp)
theorem held_told (T : Int → ByteArray) (hT : ∀ x : Int, 0 ≤ x ∧ x < 1000000000000000000 → Ev (fun k => laws_markText.f k x) (T x)) (n : Nat) (hl : n ≤ 4000) :
    Ev (fun k => laws_heldSectionS.f k ((List.range n).map (markE T)) 1) (1 + 2 * (n : Int)) := by
  have hlen : ((List.range n).map (markE T)).length = n := by simp
  have key : ∀ (m i : Nat), i + m = n → Ev (fun k => laws_heldSectionS.l0 k ((List.range n).map (markE T)) (1 + 2 * (i : Int)) (i : Int)) (1 + 2 * (n : Int)) := by
    intro m
    induction m with
    | zero =>
      intro i hi
      obtain rfl : i = n := by omega
      refine Pl.ev_const 1 fun k => ?_
      simp only [laws_heldSectionS.l0]
      rw [if_neg (by omega)]
    | succ m ih =>
      intro i hi
      have h2 := ih (i + 1) (by omega)
      have hrd : rdS' ((List.range n).map (markE T)) (i : Int) = markE T i := by
        have hin : i < n := by omega
        simp [rdS', rd_T87, List.getD_eq_getElem?_getD, hin]
      have w1 : wrap64 (1 + 2 * (i : Int) + 1) = 2 + 2 * (i : Int) := by rw [Pl.w64 (by omega) (by omega)]; omega
      have w2 : wrap64 (2 + 2 * (i : Int) + 1) = 1 + 2 * ((i + 1 : Nat) : Int) := by rw [Pl.w64 (by omega) (by omega)]; omega
      refine Pl.ev_skip 1 (f := fun k => (laws_markText.f k (2 + 2 * (i : Int))).bind fun t138 => if (T (2 + 2 * (i : Int))).toList = t138.toList then laws_heldSectionS.l0 k ((List.range n).map (markE T)) (1 + 2 * ((i + 1 : Nat) : Int)) ((i + 1 : Nat) : Int) else some (-1)) (fun k => ?_) ((hT _ (by omega)).bind (by simp only [eq_self, if_true]; exact h2))
      show laws_heldSectionS.l0 (k + 1) _ _ _ = _
      simp only [laws_heldSectionS.l0]
      simp only [rdS'] at hrd
      rw [if_pos (by omega), if_pos (by omega), hrd]
      simp only [markE, eq_self, if_true, w1, w2, Pl.w64s i n (by omega) (by omega)]
  unfold laws_heldSectionS.f
  exact key n 0 (by omega)
theorem eqSectionS_refl (l : List SS) (hl : l.length ≤ 35184372088832) : Ev (fun k => laws_eqSectionS.f k l l) true := by
  have key : ∀ (m i : Nat), i + m = l.length → Ev (fun k => laws_eqSectionS.l0 k l l (i : Int)) true := by
    intro m
    induction m with
    | zero =>
      intro i hi
      refine Pl.ev_const 1 fun k => ?_
      simp only [laws_eqSectionS.l0]
      rw [if_neg (by omega)]
    | succ m ih =>
      intro i hi
      refine Pl.ev_skip 1 (fun k => ?_) (ih (i + 1) (by omega))
      show laws_eqSectionS.l0 (k + 1) l l (i : Int) = _
      simp only [laws_eqSectionS.l0, laws_eqSection.f]
      rw [if_pos (by omega), if_pos (by omega), if_pos (by omega), Pl.w64s i l.length (by omega) (by omega)]
      simp
  unfold laws_eqSectionS.f
  simp only [eq_self, if_true]
  exact key l.length 0 (by omega)

theorem FnExactReadSections : laws_FnExactReadSections.Pure := by
  intro a0 hs
  obtain ⟨T, hT⟩ := markText_fn
  obtain ⟨⟨l, b⟩, hl, e1, e2⟩ := read_told a0
  simp only at hl
  refine Ev.rounds ?_
  unfold laws_FnExactReadSections.f
  by_cases hb : (a0.size : Int) > 1048576
  · simp only [if_pos hb]; exact Ev.now true
  · simp only [if_neg hb]
    have q := eqSectionS_refl l (by omega)
    have hd := held_told T hT l.length hl
    refine e1.bind (e2.bind (q.bind ?_))
    simp only [if_true, bne_self_eq_false]
    refine Pl.ev_skip 1 (f := fun k => ((laws_markSectionS.f k l 1).bind fun bt148 => ((laws_heldSectionS.f k bt148.2 1).bind fun t150 => (if t150 < 0 then (some false) else (if t150 = bt148.1 then ((impl_ReadSections.f k a0).bind fun bt151 => ((laws_eqSectionS.f k bt151.1 l).bind fun t155 => (if t155 = true then (laws_FnExactReadSections.j1 k bt148.2 bt148.1 (bt151.2 != b)) else (laws_FnExactReadSections.j1 k bt148.2 bt148.1 true)))) else (some false)))))) (fun k => by simp only [laws_FnExactReadSections.j0]; rw [if_neg (by decide)]) ?_
    refine (mark_told T hT l hl).bind (hd.bind ?_)
    simp only [if_neg (show ¬ (1 + 2 * (l.length : Int) < 0) by omega), eq_self, if_true]
    refine e2.bind (q.bind ?_)
    simp only [if_true, bne_self_eq_false]
    refine Pl.ev_skip 1 (f := fun k => ((laws_heldSectionS.f k ((List.range l.length).map (markE T)) 1).bind fun t156 => (if t156 < 0 then (some false) else (if t156 = 1 + 2 * (l.length : Int) then (some true) else (some false))))) (fun k => by simp only [laws_FnExactReadSections.j1]; rw [if_neg (by decide)]) ?_
    refine hd.bind ?_
    simp only [if_neg (show ¬ (1 + 2 * (l.length : Int) < 0) by omega), eq_self, if_true]
    exact Ev.now true

end Go.Proofs.Ytfmmmfddpfddoaa.Pure
