/- Code and its bytes: what both sides hold good, numbers in bytes, instructions in bytes: by printed walks of the parts. The statements' own copies, sizes and comparisons of code: by printed walks. Four rows of a call's own that are written in turn (numbers, numbers, bools, rows of numbers): what each event leaves of them. A body's ends, the reference's side: a walk of our own. How deep a body is, the program's side: a walk of our own. How deep a body is: both sides tell one thing; plain lemmas over what the walks compute. A body's ends, the program's side: a walk of our own. A body's ends: what the reference fills going forward is what the program reads off going back; plain lemmas. Marks: rows of numbers and of instructions overwritten, and read again: walks of our own. EndsOf: both sides and the law, by walks of our own. -/
import Derived.Test.YtfncjcnlndoelaaOwnKp
import Derived.Test.YtfncjcnlndoelaaOwnBytes
import Derived.Test.YtfncjcnlndoelaaPl6Goodx3
import Derived.Test.YtfncjcnlndoelaaPgoodCodex2
import Derived.Test.YtfncjcnlndoelaaPl1Ulebx1
import Derived.Test.YtfncjcnlndoelaaPl1Slebx1
import Derived.Test.YtfncjcnlndoelaaPUlebBytesx1
import Derived.Test.YtfncjcnlndoelaaPSlebBytesx1
import Derived.Test.YtfncjcnlndoelaaPtoInsSx1
import Derived.Test.YtfncjcnlndoelaaPeqInsSx1
import Derived.Test.YtfncjcnlndoelaaPszInsSx1
import Derived.Test.YtfncjcnlndoelaaPopensx1
import Derived.Lib.Builder
import Derived.Test.YtfncjcnlndoelaaPheldIntSx1
import Derived.Test.YtfncjcnlndoelaaPeqIntSx1
namespace Go.Proofs.Ytfncjcnlndoelaa.OwnCode
open Go Go.RowKit Go.Proofs.YtfncjcnlndoelaaW.PrintWords Go.Proofs.YtfncjcnlndoelaaW.PrintLast Go.Proofs.YtfncjcnlndoelaaW.PrintMore Go.Proofs.Ytfncjcnlndoelaa.OwnBs Go.Proofs.Ytfncjcnlndoelaa.OwnKp
set_option linter.unusedVariables false
set_option linter.unusedSimpArgs false
section
open Pl6Good PgoodCode
theorem l1In_told (a b c : Int) : spec_l1In.f a b c = some (decide (b ≤ a ∧ a ≤ c)) := by
  unfold spec_l1In.f
  by_cases h : b ≤ a <;> simp [h]

/-! ### What an instruction has as A: both tell it alike, the program one more -/
def shapeM (op : Int) : Int := if 0 ≤ op ∧ op ≤ 180 then (spec_l6Shape.f 5 op).getD 0 else -1
theorem shape_far (k : Nat) (op : Int) (h : op < 0 ∨ 180 < op) : spec_l6Shape.f (k + 5) op = some (-1) ∧ impl_formOf.f (k + 5) op = some 0 := by
  have hb : ∀ c : Int, 0 ≤ c → c ≤ 180 → (op == c) = false := fun c h0 h1 => by simp; omega
  constructor
  · unfold spec_l6Shape.f
    iterate 13 rw [if_neg (by omega)]
    rw [hb 180 (by decide) (by decide)]
    simp only [spec_l6Shape.j0]
    iterate 3 rw [if_neg (by first | decide | omega)]
    rw [hb 4 (by decide) (by decide)]
    simp only [spec_l6Shape.j1]
    iterate 8 rw [if_neg (by first | decide | omega)]
    rw [hb 36 (by decide) (by decide)]
    simp only [spec_l6Shape.j2]
    iterate 4 rw [if_neg (by first | decide | omega)]
    rw [hb 55 (by decide) (by decide)]
    simp only [spec_l6Shape.j3]
    iterate 4 rw [if_neg (by first | decide | omega)]
    simp only [l1In_told, Option.bind_some]
    rw [decide_eq_false (by omega), decide_eq_false (by omega), decide_eq_false (by omega)]
    rfl
  · unfold impl_formOf.f
    iterate 2 rw [if_neg (by omega)]
    rw [hb 4 (by decide) (by decide)]
    simp only [impl_formOf.j0]
    iterate 8 rw [if_neg (by first | decide | omega)]
    rw [hb 36 (by decide) (by decide)]
    simp only [impl_formOf.j1]
    iterate 4 rw [if_neg (by first | decide | omega)]
    rw [hb 55 (by decide) (by decide)]
    simp only [impl_formOf.j2]
    iterate 17 rw [if_neg (by first | decide | omega)]
    rw [hb 180 (by decide) (by decide)]
    simp only [impl_formOf.j3]
    rw [if_neg (by decide)]
    rcases h with h | h
    · rw [if_neg (by omega), if_neg (by omega), if_neg (by omega)]
    · rw [if_pos (by omega), if_neg (by omega), if_pos (by omega), if_neg (by omega), if_pos (by omega), if_neg (by omega)]
theorem shape_near : ∀ v : Fin 181, spec_l6Shape.f 5 (v.val : Int) = some (shapeM (v.val : Int)) ∧ impl_formOf.f 5 (v.val : Int) = some (shapeM (v.val : Int) + 1) ∧ 0 ≤ shapeM (v.val : Int) + 1 ∧ shapeM (v.val : Int) ≤ 6 := by decide +kernel
theorem shape_told (op : Int) : Ev (fun k => spec_l6Shape.f k op) (shapeM op) ∧ Ev (fun k => impl_formOf.f k op) (shapeM op + 1) ∧ 0 ≤ shapeM op + 1 ∧ shapeM op ≤ 6 := by
  by_cases h : 0 ≤ op ∧ op ≤ 180
  · have := shape_near ⟨op.toNat, by omega⟩
    simp only [Int.toNat_of_nonneg h.1] at this
    obtain ⟨h1, h2, h3⟩ := this
    exact ⟨Ev.of (fun k => spec_l6Shape.mono op k) h1, Ev.of (fun k => impl_formOf.mono op k) h2, h3⟩
  · have e : shapeM op = -1 := by unfold shapeM; rw [if_neg h]
    rw [e]
    exact ⟨Pl.ev_const 5 fun k => (shape_far k op (by omega)).1, Pl.ev_const 5 fun k => (shape_far k op (by omega)).2, by decide, by decide⟩

/-! ### Good instructions -/
def goodI (op a : Int) : Bool :=
  if shapeM op = 0 then decide (a = 0) else if shapeM op = 1 then decide ((125 ≤ a ∧ a ≤ 127) ∨ a = 64) else if shapeM op = 2 then decide (0 ≤ a ∧ a ≤ 1000) else if shapeM op = 3 then decide (0 ≤ a ∧ a ≤ 10000)
  else if shapeM op = 4 then decide (-2147483648 ≤ a ∧ a ≤ 2147483647) else if shapeM op = 5 then true else if shapeM op = 6 then decide (0 ≤ a ∧ a ≤ 4294967295) else false
theorem beq_dec (a b : Int) : (a == b) = decide (a = b) := rfl
theorem goodI_spec (op a : Int) : Ev (fun k => spec_GoodIns.f k op a) (goodI op a) := by
  obtain ⟨h1, _, h3, h4⟩ := shape_told op
  unfold spec_GoodIns.f
  refine h1.bind ?_
  unfold goodI spec_l6Type.f
  simp only [l1In_told, Option.bind_some, beq_dec]
  generalize shapeM op = s at *
  obtain rfl | rfl | rfl | rfl | rfl | rfl | rfl | rfl : s = -1 ∨ s = 0 ∨ s = 1 ∨ s = 2 ∨ s = 3 ∨ s = 4 ∨ s = 5 ∨ s = 6 := by omega
  all_goals simp only [show ((-1 : Int) = 0) = False by decide, Int.reduceEq, if_true, if_false, eq_self, reduceIte]
  case inr.inr.inl =>
    by_cases h : 125 ≤ a ∧ a ≤ 127
    · simp only [decide_eq_true h, if_true, h, true_or, decide_true]; exact Ev.now true
    · simp only [decide_eq_false h, h, false_or, Bool.false_eq_true, if_false]; exact Ev.now _
  all_goals exact Ev.now _
theorem goodI_impl (op a : Int) : Ev (fun k => impl_GoodIns.f k op a) (goodI op a) := by
  obtain ⟨_, h1, h3, h4⟩ := shape_told op
  unfold impl_GoodIns.f
  refine h1.bind ?_
  unfold goodI impl_goodType.f
  simp only [beq_dec]
  generalize shapeM op = s at *
  obtain rfl | rfl | rfl | rfl | rfl | rfl | rfl | rfl : s = -1 ∨ s = 0 ∨ s = 1 ∨ s = 2 ∨ s = 3 ∨ s = 4 ∨ s = 5 ∨ s = 6 := by omega
  all_goals simp only [Int.reduceAdd, Int.reduceEq, if_true, if_false, eq_self, reduceIte]
  case inr.inr.inl =>
    by_cases h1 : a = 127
    · subst h1; exact Ev.now _
    · by_cases h2 : a = 126
      · subst h2; exact Ev.now _
      · by_cases h3 : a = 125
        · subst h3; exact Ev.now _
        · have e : decide ((125 ≤ a ∧ a ≤ 127) ∨ a = 64) = decide (a = 64) := by rw [decide_eq_decide]; omega
          rw [e]
          simp only [h1, h2, h3, if_false, Option.bind_some, decide_false, Bool.false_eq_true]
          exact Ev.now _
  case inr.inr.inr.inl =>
    by_cases h : a ≥ 0
    · simp only [if_pos h]; rw [show decide (0 ≤ a ∧ a ≤ 1000) = decide (a ≤ 1000) by rw [decide_eq_decide]; omega]; exact Ev.now _
    · simp only [if_neg h]; rw [decide_eq_false (by omega)]; exact Ev.now _
  case inr.inr.inr.inr.inl =>
    by_cases h : a ≥ 0
    · simp only [if_pos h]; rw [show decide (0 ≤ a ∧ a ≤ 10000) = decide (a ≤ 10000) by rw [decide_eq_decide]; omega]; exact Ev.now _
    · simp only [if_neg h]; rw [decide_eq_false (by omega)]; exact Ev.now _
  case inr.inr.inr.inr.inr.inl =>
    by_cases h : a ≥ -2147483648
    · simp only [if_pos h]; rw [show decide (-2147483648 ≤ a ∧ a ≤ 2147483647) = decide (a < 2147483648) by rw [decide_eq_decide]; omega]; exact Ev.now _
    · simp only [if_neg h]; rw [decide_eq_false (by omega)]; exact Ev.now _
  case inr.inr.inr.inr.inr.inr.inr =>
    by_cases h : a ≥ 0
    · simp only [if_pos h]; rw [show decide (0 ≤ a ∧ a ≤ 4294967295) = decide (a < 4294967296) by rw [decide_eq_decide]; omega]; exact Ev.now _
    · simp only [if_neg h]; rw [decide_eq_false (by omega)]; exact Ev.now _
  all_goals exact Ev.now _

/-- Good code. -/
def goodC (l : List (Int × Int)) : Bool := (l.all fun p => goodI p.1 p.2) && decide (l.length ≤ 200)
def mkS (p : Int × Int) : Pl6Good.S86 := ⟨p.1, p.2⟩
def mkI (p : Int × Int) : PgoodCode.S86 := ⟨p.1, p.2⟩
theorem rdS (l : List (Int × Int)) (i : Nat) (h : i < l.length) : Pl6Good.rd_T86 (l.map mkS) (i : Int) = mkS l[i] := by
  unfold Pl6Good.rd_T86
  simp [List.getD_eq_getElem?_getD, List.getElem?_eq_getElem h]
theorem rdI (l : List (Int × Int)) (i : Nat) (h : i < l.length) : PgoodCode.rd_T86 (l.map mkI) (i : Int) = mkI l[i] := by
  unfold PgoodCode.rd_T86
  simp [List.getD_eq_getElem?_getD, List.getElem?_eq_getElem h]
theorem goodC_spec (l : List (Int × Int)) (hl : l.length ≤ 1048576) : Ev (fun k => spec_l6Good.f k (l.map mkS)) (goodC l) := by
  have hm : (l.map mkS).length = l.length := List.length_map ..
  have key : ∀ (m i : Nat), i + m = l.length → Ev (fun k => spec_l6Good.l0 k (l.map mkS) (l.map mkS) (l.length : Int) (i : Int)) (((l.drop i).all fun p => goodI p.1 p.2) && decide (l.length ≤ 200)) := by
    intro m
    induction m with
    | zero =>
      intro i hi
      refine Pl.ev_const 1 fun k => ?_
      simp only [spec_l6Good.l0]
      rw [if_neg (by omega), List.drop_of_length_le (by omega), hm]
      simp
      omega
    | succ m ih =>
      intro i hi
      have hil : i < l.length := by omega
      have hn := ih (i + 1) (by omega)
      rw [List.drop_eq_getElem_cons hil, List.all_cons]
      have hg := goodI_spec l[i].1 l[i].2
      have step : Ev (fun k => (spec_GoodIns.f k l[i].1 l[i].2).bind fun t => if t = true then spec_l6Good.l0 k (l.map mkS) (l.map mkS) (l.length : Int) ((i + 1 : Nat) : Int) else some false) (goodI l[i].1 l[i].2 && ((l.drop (i + 1)).all fun p => goodI p.1 p.2) && decide (l.length ≤ 200)) := by
        refine hg.bind ?_
        cases h : goodI l[i].1 l[i].2 with
        | true => simp only [if_true, Bool.true_and]; exact hn
        | false => simp only [Bool.false_eq_true, if_false, Bool.false_and]; exact Ev.now _
      refine Pl.ev_skip 1 (fun k => ?_) step
      simp only [spec_l6Good.l0]
      rw [if_pos (by omega), if_pos (by omega), if_pos (by omega), rdS l i hil, Pl.w64s i l.length (by omega) (by omega)]
      rfl
  have := key l.length 0 (by omega)
  unfold spec_l6Good.f goodC
  rw [hm]
  simpa using this
theorem goodC_impl (l : List (Int × Int)) (hl : l.length ≤ 1048576) : Ev (fun k => impl_goodCode.f k (l.map mkI)) (goodC l) := by
  have hm : (l.map mkI).length = l.length := List.length_map ..
  have key : ∀ (m i : Nat), i + m = l.length → Ev (fun k => impl_goodCode.l0 k (l.map mkI) (l.length : Int) (i : Int)) ((l.drop i).all fun p => goodI p.1 p.2) := by
    intro m
    induction m with
    | zero =>
      intro i hi
      refine Pl.ev_const 1 fun k => ?_
      simp only [impl_goodCode.l0]
      rw [if_neg (by omega), List.drop_of_length_le (by omega)]
      simp
    | succ m ih =>
      intro i hi
      have hil : i < l.length := by omega
      have hn := ih (i + 1) (by omega)
      rw [List.drop_eq_getElem_cons hil, List.all_cons]
      have hg := goodI_impl l[i].1 l[i].2
      have step : Ev (fun k => (impl_GoodIns.f k l[i].1 l[i].2).bind fun t => if t = true then impl_goodCode.l0 k (l.map mkI) (l.length : Int) ((i + 1 : Nat) : Int) else some false) (goodI l[i].1 l[i].2 && ((l.drop (i + 1)).all fun p => goodI p.1 p.2)) := by
        refine hg.bind ?_
        cases h : goodI l[i].1 l[i].2 with
        | true => simp only [if_true, Bool.true_and]; exact hn
        | false => simp only [Bool.false_eq_true, if_false, Bool.false_and]; exact Ev.now _
      refine Pl.ev_skip 1 (fun k => ?_) step
      simp only [impl_goodCode.l0]
      rw [if_pos (by omega), if_pos (by omega), if_pos (by omega), rdI l i hil, Pl.w64s i l.length (by omega) (by omega)]
      rfl
  have := key l.length 0 (by omega)
  unfold impl_goodCode.f goodC
  rw [hm]
  by_cases h : (l.length : Int) > 200
  · simp only [if_pos h]
    rw [decide_eq_false (show ¬ l.length ≤ 200 by omega), Bool.and_false]
    exact Ev.now false
  · simp only [if_neg h]
    rw [decide_eq_true (show l.length ≤ 200 by omega), Bool.and_true]
    simpa using this
theorem good_s (A : Option Addr) (c : Nat) (l : List (Int × Int)) (w : World) (hr : Kd.C kI w A l.length l) (hc : l.length ≤ c) (hl : l.length ≤ 1048576) : Calls Try.prog 60 #[.slice A l.length c] w fun e w' => e = .returned (.bool (goodC l)) ∧ Below w.heap.size w w' := by
  obtain ⟨k, hk⟩ := (goodC_spec l hl).rounds
  have h1 : Kd.C Pl6Good.k86 w A (l.map mkS).length (l.map mkS) := by rw [List.length_map]; exact C_ofmap (fun _ => rfl) hr
  have := spec_l6Good.calls k A c (l.map mkS) _ w h1 (by rw [List.length_map]; exact hc) hk
  rwa [List.length_map] at this
theorem good_i (A : Option Addr) (c : Nat) (l : List (Int × Int)) (w : World) (hr : Kd.C kI w A l.length l) (hc : l.length ≤ c) (hl : l.length ≤ 1048576) : Calls Try.prog 62 #[.slice A l.length c] w fun e w' => e = .returned (.bool (goodC l)) ∧ Below w.heap.size w w' := by
  obtain ⟨k, hk⟩ := (goodC_impl l hl).rounds
  have h1 : Kd.C PgoodCode.k86 w A (l.map mkI).length (l.map mkI) := by rw [List.length_map]; exact C_ofmap (fun _ => rfl) hr
  have := impl_goodCode.calls k A c (l.map mkI) _ w h1 (by rw [List.length_map]; exact hc) hk
  rwa [List.length_map] at this
theorem shape_s (op : Int) (w : World) : Calls Try.prog 85 #[.int .i64 op] w fun e w' => e = .returned (.int .i64 (shapeM op)) ∧ ∃ n, w' = w.drewN n := by
  obtain ⟨k, hk⟩ := (shape_told op).1.rounds
  exact (spec_l6Shape.calls k op _ w hk).mono fun e w' h => ⟨h.1, h.2.out⟩
theorem form_i (op : Int) (w : World) : Calls Try.prog 63 #[.int .i64 op] w fun e w' => e = .returned (.int .i64 (shapeM op + 1)) ∧ ∃ n, w' = w.drewN n := by
  obtain ⟨k, hk⟩ := (shape_told op).2.1.rounds
  exact (impl_formOf.calls k op _ w hk).mono fun e w' h => ⟨h.1, h.2.out⟩
theorem goodC_len {l : List (Int × Int)} (h : goodC l = true) : l.length ≤ 200 := by
  unfold goodC at h
  rw [Bool.and_eq_true, decide_eq_true_eq] at h
  exact h.2
theorem goodC_at {l : List (Int × Int)} (h : goodC l = true) (i : Nat) (hi : i < l.length) : goodI l[i].1 l[i].2 = true := by
  unfold goodC at h
  rw [Bool.and_eq_true, List.all_eq_true] at h
  exact h.1 l[i] (List.getElem_mem hi)
theorem goodI_says {op a : Int} (h : goodI op a = true) : (shapeM op = 0) ∨ (shapeM op = 1 ∧ 0 ≤ a ∧ a < 256) ∨ (shapeM op = 2 ∧ 0 ≤ a ∧ a ≤ 10000) ∨ (shapeM op = 3 ∧ 0 ≤ a ∧ a ≤ 10000) ∨ shapeM op = 4 ∨ shapeM op = 5 ∨ (shapeM op = 6 ∧ 0 ≤ a ∧ a < 4294967296) := by
  unfold goodI at h
  split at h
  · exact .inl ‹_›
  · split at h
    · rw [decide_eq_true_eq] at h; right; left; exact ⟨‹_›, by omega, by omega⟩
    · split at h
      · rw [decide_eq_true_eq] at h; right; right; left; exact ⟨‹_›, by omega, by omega⟩
      · split at h
        · rw [decide_eq_true_eq] at h; right; right; right; left; exact ⟨‹_›, by omega, by omega⟩
        · split at h
          · right; right; right; right; left; assumption
          · split at h
            · right; right; right; right; right; left; assumption
            · split at h
              · rw [decide_eq_true_eq] at h; right; right; right; right; right; right; exact ⟨‹_›, by omega, by omega⟩
              · cases h
theorem shape_op {op a : Int} (h : goodI op a = true) : 0 ≤ op ∧ op ≤ 180 := by
  by_cases ho : 0 ≤ op ∧ op ≤ 180
  · exact ho
  · have e : shapeM op = -1 := by unfold shapeM; rw [if_neg ho]
    rcases goodI_says h with h | ⟨h, _⟩ | ⟨h, _⟩ | ⟨h, _⟩ | h | h | ⟨h, _⟩ <;> omega
end
/-! ### Numbers in bytes -/
section
open Pl1Uleb PUlebBytes
/-! ### Numbers in bytes: both loops are one, and they end -/
theorem uleb_byte (x : Int) (h0 : 0 ≤ x) : (bits .or .u64 (bits .and .u64 x 127) 128) % 256 = bits .or .u8 (x % 256) 128 := by
  rw [Pl.and127 .u64 (by decide), Pl.or_u8_128 (x % 256) (by omega) (by omega), Pl.or_join_u64 7 (x % 128) 128 (by omega) (by omega) (by omega) (by decide) (by omega) (by decide)]
  omega
theorem uleb_same : ∀ (k : Nat) (x : Int) (acc : List Int), 0 ≤ x → spec_l1Uleb.l0 k x acc = impl_UlebBytes.l0 k x acc
  | 0, _, _, _ => rfl
  | k + 1, x, acc, h0 => by
    simp only [spec_l1Uleb.l0, impl_UlebBytes.l0]
    by_cases h : x > 127
    · rw [if_pos h, if_pos (show x ≥ 128 by omega), uleb_byte x h0, uleb_same k _ _ (by omega)]
    · rw [if_neg h, if_neg (show ¬ x ≥ 128 by omega)]
theorem uleb_ends : ∀ (m : Nat) (x : Int) (acc : List Int), 0 ≤ x → x < 128 ^ (m + 1) → acc.length + m < 140737488355328 →
    ∃ r : ByteArray, (∀ k, m < k → spec_l1Uleb.l0 k x acc = some r) ∧ r.size ≤ acc.length + m + 1
  | 0, x, acc, h0, h1, hl => by
    refine ⟨strOfNums (acc ++ [x % 256]), fun k hk => ?_, by rw [Pl.strOfNums_size]; simp only [List.length_append, List.length_singleton]; omega⟩
    obtain ⟨k, rfl⟩ : ∃ j, k = j + 1 := ⟨k - 1, by omega⟩
    simp only [spec_l1Uleb.l0]
    rw [if_neg (by omega), if_pos (by omega)]
  | m + 1, x, acc, h0, h1, hl => by
    by_cases h : x > 127
    · obtain ⟨r, hr, hs⟩ := uleb_ends m (x / 128) (acc ++ [(bits .or .u64 (bits .and .u64 x 127) 128) % 256]) (by omega) (by
        rw [Int.pow_succ] at h1; exact Int.ediv_lt_of_lt_mul (by decide) (by omega)) (by simp; omega)
      refine ⟨r, fun k hk => ?_, by simp at hs; omega⟩
      obtain ⟨k, rfl⟩ : ∃ j, k = j + 1 := ⟨k - 1, by omega⟩
      simp only [spec_l1Uleb.l0]
      rw [if_pos h, if_pos (by omega)]
      exact hr k (by omega)
    · refine ⟨strOfNums (acc ++ [x % 256]), fun k hk => ?_, by rw [Pl.strOfNums_size]; simp only [List.length_append, List.length_singleton]; omega⟩
      obtain ⟨k, rfl⟩ : ∃ j, k = j + 1 := ⟨k - 1, by omega⟩
      simp only [spec_l1Uleb.l0]
      rw [if_neg h, if_pos (by omega)]
/-- What both come to. -/
theorem uleb_told (x : Int) (h0 : 0 ≤ x) (h1 : x < 18446744073709551616) : ∃ r : ByteArray, r.size ≤ 10 ∧ Ev (fun k => spec_l1Uleb.f k x) r ∧ Ev (fun k => impl_UlebBytes.f k x) r := by
  obtain ⟨r, hr, hs⟩ := uleb_ends 9 x [] h0 (by omega) (by simp)
  refine ⟨r, by simpa using hs, ⟨10, fun k hk => hr k (by omega)⟩, ⟨10, fun k hk => ?_⟩⟩
  show impl_UlebBytes.l0 k x [] = some r
  rw [← uleb_same k x [] h0]
  exact hr k (by omega)

def ulebS (x : Int) : ByteArray := (spec_l1Uleb.f 11 x).getD ⟨#[]⟩
theorem ulebS_told (x : Int) (h0 : 0 ≤ x) (h1 : x < 18446744073709551616) : (ulebS x).size ≤ 10 ∧ Ev (fun k => spec_l1Uleb.f k x) (ulebS x) ∧ Ev (fun k => impl_UlebBytes.f k x) (ulebS x) := by
  obtain ⟨r, hr, hs⟩ := uleb_ends 9 x [] h0 (by omega) (by simp)
  have e : ulebS x = r := by unfold ulebS; rw [show spec_l1Uleb.f 11 x = some r from hr 11 (by omega)]; rfl
  rw [e]
  refine ⟨by simpa using hs, ⟨10, fun k hk => hr k (by omega)⟩, ⟨10, fun k hk => ?_⟩⟩
  show impl_UlebBytes.l0 k x [] = some r
  rw [← uleb_same k x [] h0]
  exact hr k (by omega)
theorem uleb_s (x : Int) (h0 : 0 ≤ x) (h1 : x < 18446744073709551616) (w : World) : Calls Try.prog 86 #[.int .u64 x] w fun e w' => e = .returned (.string (ulebS x)) ∧ Below w.heap.size w w' := by
  obtain ⟨k, hk⟩ := (ulebS_told x h0 h1).2.1.rounds
  exact spec_l1Uleb.calls k x _ w hk
theorem uleb_i (x : Int) (h0 : 0 ≤ x) (h1 : x < 18446744073709551616) (w : World) : Calls Try.prog 64 #[.int .u64 x] w fun e w' => e = .returned (.string (ulebS x)) ∧ Below w.heap.size w w' := by
  obtain ⟨k, hk⟩ := (ulebS_told x h0 h1).2.2.rounds
  exact impl_UlebBytes.calls k x _ w hk
end
section
open Pl1Sleb PSlebBytes
/-! ### Signed numbers in bytes: both loops are one text, and they end -/
theorem sleb_same : ∀ (k : Nat) (x : Int) (acc : List Int), spec_l1Sleb.l0 k x acc = impl_SlebBytes.l0 k x acc
  | 0, _, _ => rfl
  | k + 1, x, acc => by
    simp only [spec_l1Sleb.l0, impl_SlebBytes.l0, sleb_same k]
theorem sleb_low (x : Int) : bits .and .u8 ((bits .and .i64 x 127) % 256) 64 = 0 ↔ x % 128 < 64 := by
  have key : ∀ v : Fin 128, bits .and .u8 (v.val : Int) 64 = 0 ↔ (v.val : Int) < 64 := by decide +kernel
  have h := key ⟨(x % 128).toNat, by omega⟩
  rw [Pl.and127 .i64 (by decide), show x % 128 % 256 = x % 128 by omega]
  simp only [Int.toNat_of_nonneg (show 0 ≤ x % 128 by omega)] at h
  exact h
theorem sleb_ends : ∀ (m : Nat) (x : Int) (acc : List Int), - (64 * 128 ^ m) ≤ x → x < 64 * 128 ^ m → acc.length + m < 140737488355328 →
    ∃ r : ByteArray, (∀ k, m < k → spec_l1Sleb.l0 k x acc = some r) ∧ r.size ≤ acc.length + m + 1
  | 0, x, acc, h0, h1, hl => by
    refine ⟨strOfNums (acc ++ [(bits .and .i64 x 127) % 256]), fun k hk => ?_, by rw [Pl.strOfNums_size]; simp only [List.length_append, List.length_singleton]; omega⟩
    obtain ⟨k, rfl⟩ : ∃ j, k = j + 1 := ⟨k - 1, by omega⟩
    simp only [spec_l1Sleb.l0, sleb_low]
    by_cases hx : 0 ≤ x
    · rw [if_pos (by omega), if_pos (by omega), if_pos (by omega)]
    · rw [if_neg (by omega), if_pos (by omega), if_neg (by omega), if_pos (by omega)]
  | m + 1, x, acc, h0, h1, hl => by
    have hd : - (64 * 128 ^ m) ≤ x / 128 ∧ x / 128 < 64 * 128 ^ m := by
      rw [Int.pow_succ] at h0 h1
      omega
    obtain ⟨r, hr, hs⟩ := sleb_ends m (x / 128) (acc ++ [bits .or .u8 ((bits .and .i64 x 127) % 256) 128]) hd.1 hd.2 (by simp only [List.length_append, List.length_singleton]; omega)
    simp only [List.length_append, List.length_singleton] at hs
    by_cases c1 : x / 128 = 0
    · by_cases c2 : x % 128 < 64
      · refine ⟨strOfNums (acc ++ [(bits .and .i64 x 127) % 256]), fun k hk => ?_, by rw [Pl.strOfNums_size]; simp only [List.length_append, List.length_singleton]; omega⟩
        obtain ⟨k, rfl⟩ : ∃ j, k = j + 1 := ⟨k - 1, by omega⟩
        simp only [spec_l1Sleb.l0, sleb_low]
        rw [if_pos c1, if_pos c2, if_pos (by omega)]
      · refine ⟨r, fun k hk => ?_, by omega⟩
        obtain ⟨k, rfl⟩ : ∃ j, k = j + 1 := ⟨k - 1, by omega⟩
        simp only [spec_l1Sleb.l0, sleb_low]
        rw [if_pos c1, if_neg c2, if_neg (by omega), if_pos (by omega)]
        exact hr k (by omega)
    · by_cases c3 : x / 128 = -1
      · by_cases c2 : x % 128 < 64
        · refine ⟨r, fun k hk => ?_, by omega⟩
          obtain ⟨k, rfl⟩ : ∃ j, k = j + 1 := ⟨k - 1, by omega⟩
          simp only [spec_l1Sleb.l0, sleb_low]
          rw [if_neg c1, if_pos c3, if_pos c2, if_pos (by omega)]
          exact hr k (by omega)
        · refine ⟨strOfNums (acc ++ [(bits .and .i64 x 127) % 256]), fun k hk => ?_, by rw [Pl.strOfNums_size]; simp only [List.length_append, List.length_singleton]; omega⟩
          obtain ⟨k, rfl⟩ : ∃ j, k = j + 1 := ⟨k - 1, by omega⟩
          simp only [spec_l1Sleb.l0, sleb_low]
          rw [if_neg c1, if_pos c3, if_neg c2, if_pos (by omega)]
      · refine ⟨r, fun k hk => ?_, by omega⟩
        obtain ⟨k, rfl⟩ : ∃ j, k = j + 1 := ⟨k - 1, by omega⟩
        simp only [spec_l1Sleb.l0, sleb_low]
        rw [if_neg c1, if_neg c3, if_pos (by omega)]
        exact hr k (by omega)
theorem sleb_told (x : Int) (h0 : -9223372036854775808 ≤ x) (h1 : x < 9223372036854775808) : ∃ r : ByteArray, r.size ≤ 10 ∧ Ev (fun k => spec_l1Sleb.f k x) r ∧ Ev (fun k => impl_SlebBytes.f k x) r := by
  obtain ⟨r, hr, hs⟩ := sleb_ends 9 x [] (by omega) (by omega) (by simp)
  refine ⟨r, by simpa using hs, ⟨10, fun k hk => hr k (by omega)⟩, ⟨10, fun k hk => ?_⟩⟩
  show impl_SlebBytes.l0 k x [] = some r
  rw [← sleb_same k x []]
  exact hr k (by omega)

def slebS (x : Int) : ByteArray := (spec_l1Sleb.f 11 x).getD ⟨#[]⟩
theorem slebS_told (x : Int) (h0 : -9223372036854775808 ≤ x) (h1 : x < 9223372036854775808) : (slebS x).size ≤ 10 ∧ Ev (fun k => spec_l1Sleb.f k x) (slebS x) ∧ Ev (fun k => impl_SlebBytes.f k x) (slebS x) := by
  obtain ⟨r, hr, hs⟩ := sleb_ends 9 x [] (by omega) (by omega) (by simp)
  have e : slebS x = r := by unfold slebS; rw [show spec_l1Sleb.f 11 x = some r from hr 11 (by omega)]; rfl
  rw [e]
  refine ⟨by simpa using hs, ⟨10, fun k hk => hr k (by omega)⟩, ⟨10, fun k hk => ?_⟩⟩
  show impl_SlebBytes.l0 k x [] = some r
  rw [← sleb_same k x []]
  exact hr k (by omega)
theorem sleb_s (x : Int) (h0 : -9223372036854775808 ≤ x) (h1 : x < 9223372036854775808) (w : World) : Calls Try.prog 87 #[.int .i64 x] w fun e w' => e = .returned (.string (slebS x)) ∧ Below w.heap.size w w' := by
  obtain ⟨k, hk⟩ := (slebS_told x h0 h1).2.1.rounds
  exact spec_l1Sleb.calls k x _ w hk
theorem sleb_i (x : Int) (h0 : -9223372036854775808 ≤ x) (h1 : x < 9223372036854775808) (w : World) : Calls Try.prog 65 #[.int .i64 x] w fun e w' => e = .returned (.string (slebS x)) ∧ Below w.heap.size w w' := by
  obtain ⟨k, hk⟩ := (slebS_told x h0 h1).2.2.rounds
  exact impl_SlebBytes.calls k x _ w hk
end
/-! ### Instructions in bytes -/
def tailS (op a : Int) : ByteArray := if shapeM op = 1 then strOfNums [a % 256] else if shapeM op = 2 ∨ shapeM op = 3 then ulebS a else if shapeM op = 4 ∨ shapeM op = 5 then slebS a else if shapeM op = 6 then OwnBytes.bytesM a 4 else ⟨#[]⟩
def insS (op a : Int) : ByteArray := strOfNums [op % 256] ++ tailS op a
def codeS (l : List (Int × Int)) : ByteArray := l.foldl (fun s x => s ++ insS x.1 x.2) ⟨#[]⟩
theorem codeS_snoc (l : List (Int × Int)) (i : Nat) (h : i < l.length) : codeS (l.take (i + 1)) = codeS (l.take i) ++ insS l[i].1 l[i].2 := by
  unfold codeS; rw [List.take_succ_eq_append_getElem h, List.foldl_append]; rfl
theorem tailS_size {op a : Int} (h : goodI op a = true) (ha : -9223372036854775808 ≤ a ∧ a < 9223372036854775808) : (tailS op a).size ≤ 10 := by
  unfold tailS
  rcases goodI_says h with h | ⟨h, h1, h2⟩ | ⟨h, h1, h2⟩ | ⟨h, h1, h2⟩ | h | h | ⟨h, h1, h2⟩
  · rw [if_neg (by omega), if_neg (by omega), if_neg (by omega), if_neg (by omega)]; exact Nat.zero_le _
  · rw [if_pos h, Pl.strOfNums_size]; simp
  · rw [if_neg (by omega), if_pos (by omega)]; exact (ulebS_told a h1 (by omega)).1
  · rw [if_neg (by omega), if_pos (by omega)]; exact (ulebS_told a h1 (by omega)).1
  · rw [if_neg (by omega), if_neg (by omega), if_pos (by omega)]; exact (slebS_told a ha.1 ha.2).1
  · rw [if_neg (by omega), if_neg (by omega), if_pos (by omega)]; exact (slebS_told a ha.1 ha.2).1
  · rw [if_neg (by omega), if_neg (by omega), if_neg (by omega), if_pos (by omega)]; unfold OwnBytes.bytesM; rw [Pl.strOfNums_size, OwnBytes.bytesAt_len]; omega
end Go.Proofs.Ytfncjcnlndoelaa.OwnCode
namespace Go.Proofs.Ytfncjcnlndoelaa.OwnInsS
open Go Go.RowKit Go.Proofs.YtfncjcnlndoelaaW.PrintWords Go.Proofs.YtfncjcnlndoelaaW.PrintLast Go.Proofs.YtfncjcnlndoelaaW.PrintMore Go.Proofs.Ytfncjcnlndoelaa.OwnBs Go.Proofs.Ytfncjcnlndoelaa.OwnKp
set_option linter.unusedVariables false
set_option linter.unusedSimpArgs false
def mkA (p : Int × Int) : PtoInsS.S88 := ⟨p.1, p.2⟩
def mkB (p : Int × Int) : PtoInsS.S86 := ⟨p.1, p.2⟩
def mkE (p : Int × Int) : PeqInsS.S86 := ⟨p.1, p.2⟩
def mkZ (p : Int × Int) : PszInsS.S88 := ⟨p.1, p.2⟩
theorem rdA (l : List (Int × Int)) (i : Nat) (h : i < l.length) : PtoInsS.rd_T88 (l.map mkA) (i : Int) = mkA l[i] := by
  unfold PtoInsS.rd_T88
  simp [List.getD_eq_getElem?_getD, List.getElem?_eq_getElem h]
theorem rdE (l : List (Int × Int)) (i : Nat) (h : i < l.length) : PeqInsS.rd_T86 (l.map mkE) (i : Int) = mkE l[i] := by
  unfold PeqInsS.rd_T86
  simp [List.getD_eq_getElem?_getD, List.getElem?_eq_getElem h]
theorem toInsS_told (l : List (Int × Int)) (hl : l.length ≤ 1048576) : Ev (fun k => PtoInsS.laws_toInsS.f k (l.map mkA)) (l.map mkB) := by
  have hm : (l.map mkA).length = l.length := List.length_map ..
  have hb : (l.map mkB).length = l.length := List.length_map ..
  have key : ∀ (m i : Nat), i + m = l.length → Ev (fun k => PtoInsS.laws_toInsS.l0 k (l.map mkA) ((l.map mkB).take i ++ List.replicate ((l.map mkB).length - i) PtoInsS.z86) (i : Int)) (l.map mkB) := by
    intro m
    induction m with
    | zero =>
      intro i hi
      refine Pl.ev_const 1 fun k => ?_
      simp only [PtoInsS.laws_toInsS.l0]
      rw [if_neg (by omega), show i = (l.map mkB).length by omega, Nat.sub_self, List.take_length]
      simp
    | succ m ih =>
      intro i hi
      refine Pl.ev_skip 1 (fun k => ?_) (ih (i + 1) (by omega))
      show PtoInsS.laws_toInsS.l0 (k + 1) _ _ (i : Int) = _
      simp only [PtoInsS.laws_toInsS.l0]
      rw [if_pos (by omega), if_pos (by omega), rdA l i (by omega)]
      show (if _ then _ else _) = _
      rw [if_pos (by rw [Pl.set_step_len _ _ i (by omega)]; omega), Pl.w64s i l.length (by omega) (by omega), Int.toNat_natCast]
      have := Pl.set_step (l.map mkB) PtoInsS.z86 (mkB l[i]) i (by omega)
      rw [← this]
      congr 2
      simp [List.getD_eq_getElem?_getD, List.getElem?_eq_getElem (show i < l.length by omega)]
      rfl
  unfold PtoInsS.laws_toInsS.f
  rw [hm]
  simp only [if_pos (show 0 ≤ (l.length : Int) by omega), Int.toNat_natCast, if_pos (show l.length ≤ 17592186044416 by omega)]
  have := key l.length 0 (by omega)
  rw [hb] at this
  simpa using this
theorem eqInsS_refl (l : List (Int × Int)) (hl : l.length ≤ 1048576) : Ev (fun k => PeqInsS.laws_eqInsS.f k (l.map mkE) (l.map mkE)) true := by
  have hm : (l.map mkE).length = l.length := List.length_map ..
  have key : ∀ (m i : Nat), i + m = l.length → Ev (fun k => PeqInsS.laws_eqInsS.l0 k (l.map mkE) (l.map mkE) (i : Int)) true := by
    intro m
    induction m with
    | zero =>
      intro i hi
      refine Pl.ev_const 1 fun k => ?_
      simp only [PeqInsS.laws_eqInsS.l0]
      rw [if_neg (by omega)]
    | succ m ih =>
      intro i hi
      refine Pl.ev_skip 1 (fun k => ?_) (ih (i + 1) (by omega))
      show PeqInsS.laws_eqInsS.l0 (k + 1) _ _ (i : Int) = _
      simp only [PeqInsS.laws_eqInsS.l0]
      rw [if_pos (by omega), if_pos (by omega), if_pos (by omega), Pl.w64s i l.length (by omega) (by omega)]
      unfold PeqInsS.laws_eqIns.f
      rw [if_pos rfl, if_pos rfl]
      rfl
  unfold PeqInsS.laws_eqInsS.f
  simp only [eq_self, if_true]
  exact key l.length 0 (by omega)
theorem toIns (A : Option Addr) (c : Nat) (l : List (Int × Int)) (w : World) (hr : Kd.C kI w A l.length l) (hc : l.length ≤ c) (hl : l.length ≤ 1048576) : Calls Try.prog 23 #[.slice A l.length c] w fun e w' => ∃ A' c', e = .returned (.slice A' l.length c') ∧ l.length ≤ c' ∧ Kd.C kI w' A' l.length l ∧ Below w.heap.size w w' := by
  obtain ⟨k, hk⟩ := (toInsS_told l hl).rounds
  have h1 : Kd.C PtoInsS.k88 w A (l.map mkA).length (l.map mkA) := by rw [List.length_map]; exact C_ofmap (fun _ => rfl) hr
  have := PtoInsS.laws_toInsS.calls k A c (l.map mkA) _ w h1 (by rw [List.length_map]; exact hc) hk
  rw [List.length_map] at this
  refine this.mono ?_
  rintro e w' ⟨v, rfl, hR, hb⟩
  obtain ⟨A', c', rfl⟩ := Kd.R_slice hR
  obtain ⟨_, h2, h3⟩ := Kd.R_reads' hR
  rw [List.length_map] at h2 h3 ⊢
  have h4 := C_tomap h3
  rw [List.map_map] at h4
  rw [show ((fun x : PtoInsS.S86 => (x.f0, x.f1)) ∘ mkB) = id from rfl, List.map_id] at h4
  exact ⟨A', c', rfl, h2, h4, hb⟩
theorem eqIns (A : Option Addr) (c : Nat) (A' : Option Addr) (c' : Nat) (l : List (Int × Int)) (w : World) (hr : Kd.C kI w A l.length l) (hc : l.length ≤ c) (hr' : Kd.C kI w A' l.length l) (hc' : l.length ≤ c') (hl : l.length ≤ 1048576) : Calls Try.prog 25 #[.slice A l.length c, .slice A' l.length c'] w fun e w' => e = .returned (.bool true) ∧ Below w.heap.size w w' := by
  obtain ⟨k, hk⟩ := (eqInsS_refl l hl).rounds
  have h1 : Kd.C PeqInsS.k86 w A (l.map mkE).length (l.map mkE) := by rw [List.length_map]; exact C_ofmap (fun _ => rfl) hr
  have h2 : Kd.C PeqInsS.k86 w A' (l.map mkE).length (l.map mkE) := by rw [List.length_map]; exact C_ofmap (fun _ => rfl) hr'
  have := PeqInsS.laws_eqInsS.calls k A c (l.map mkE) A' c' (l.map mkE) true w h1 (by rw [List.length_map]; exact hc) h2 (by rw [List.length_map]; exact hc') hk
  rwa [List.length_map] at this
/-- What is left of a budget. -/
def leftM (n a : Int) : Int := if wrap64 (a - n) < 0 then -1 else wrap64 (a - n)
theorem szIns (A : Option Addr) (c : Nat) (l : List (Int × Int)) (a : Int) (w : World) (hr : Kd.C kI w A l.length l) (hc : l.length ≤ c) : Calls Try.prog 21 #[.slice A l.length c, .int .i64 a] w fun e w' => e = .returned (.int .i64 (leftM l.length a)) ∧ ∃ n, w' = w.drewN n := by
  have h1 : Kd.C PszInsS.k88 w A (l.map mkZ).length (l.map mkZ) := by rw [List.length_map]; exact C_ofmap (fun _ => rfl) hr
  have := PszInsS.laws_szInsS.calls A c (l.map mkZ) a (leftM l.length a) w h1 (by rw [List.length_map]; exact hc) (by unfold PszInsS.laws_szInsS.f leftM; rw [List.length_map]; split <;> rfl)
  rw [List.length_map] at this
  exact this.mono fun e w' h => ⟨h.1, h.2.out⟩
end Go.Proofs.Ytfncjcnlndoelaa.OwnInsS
namespace Go.Proofs.Ytfncjcnlndoelaa.OwnSt
open Go Go.RowKit Go.Proofs.YtfncjcnlndoelaaW.PrintWords Go.Proofs.YtfncjcnlndoelaaW.PrintLast Go.Proofs.YtfncjcnlndoelaaW.PrintMore Go.Proofs.Ytfncjcnlndoelaa.OwnBs Go.Proofs.Ytfncjcnlndoelaa.OwnKp
set_option linter.unusedVariables false
set_option linter.unusedSimpArgs false
theorem info_int : (Try.prog.info? 3).map (fun i => (i.zero, i.size, i.bytes)) = some (some (.int .i64 0), 1, 8) := by kernel_rfl
theorem info_bool : (Try.prog.info? 4).map (fun i => (i.zero, i.size, i.bytes)) = some (some (.bool false), 1, 1) := by kernel_rfl
theorem info_ints : (Try.prog.info? 52).map (fun i => (i.zero, i.size, i.bytes)) = some (some (.slice none 0 0), 1, 24) := by kernel_rfl
abbrev dI : Kd Int := Kd.int .i64
abbrev dL : Kd (List Int) := Kd.slice 3 dI
theorem R_retag {α : Type} {d : Kd α} {e : Nat} {w : World} {B : Nat} {v : Value} {xs : List α} {tag tag' : Nat → Nat} {c : Nat} (h : d.R e w B (fun k => tag k = c) v xs) (ht : ∀ k, k < w.heap.size → tag' k = tag k) : d.R e w B (fun k => tag' k = c) v xs :=
  Kd.R_mono (Kd.R_bound h) (fun k hk => by rw [ht k hk.2.2.1]; exact hk.1)
theorem S_retag {α : Type} {d : Kd α} {e : Nat} {w : World} {B : Nat} {v : Value} {xs : List α} {tag tag' : Nat → Nat} {c : Nat} (h : Kd.S d e w B (fun k => tag k = c) v xs) (ht : ∀ k, k < w.heap.size → tag' k = tag k) : Kd.S d e w B (fun k => tag' k = c) v xs :=
  Kd.S_mono (Kd.S_bound h) (fun k hk => by rw [ht k hk.2.2.1]; exact hk.1)
/-- What is new belongs to c. -/
def ft (tag : Nat → Nat) (n c : Nat) : Nat → Nat := fun k => if k < n then tag k else c
theorem ft_old (tag : Nat → Nat) (n c : Nat) : ∀ k, k < n → ft tag n c k = tag k := fun k hk => if_pos hk
theorem ft_new (tag : Nat → Nat) (n c : Nat) : ∀ k, n ≤ k → ft tag n c k = c := fun k hk => if_neg (by omega)
/-- The four rows: out, open, elses, inside. -/
structure St (w0 w : World) (vo vp ve vi : Value) (out op : List Int) (els : List Bool) (ins : List (List Int)) : Prop where
  rows : ∃ tag : Nat → Nat, dI.R 3 w w0.heap.size (fun k => tag k = 0) vo out ∧ dI.R 3 w w0.heap.size (fun k => tag k = 1) vp op ∧ Kd.bool.R 4 w w0.heap.size (fun k => tag k = 2) ve els ∧ Kd.S dL 52 w w0.heap.size (fun k => tag k = 3) vi ins
  bel : Below w0.heap.size w0 w
section
variable {w0 w w1 : World} {vo vp ve vi : Value} {out op : List Int} {els : List Bool} {ins : List (List Int)}
theorem St.below (h : St w0 w vo vp ve vi out op els ins) (hb : Below w.heap.size w w1) : St w0 w1 vo vp ve vi out op els ins := by
  obtain ⟨⟨tag, h1, h2, h3, h4⟩, hB⟩ := h
  exact ⟨⟨tag, Kd.R_below h1 hb, Kd.R_below h2 hb, Kd.R_below h3 hb, Kd.S_below h4 hb⟩, below_step hB hb⟩
theorem St.alloc (h : St w0 w vo vp ve vi out op els ins) (o : Obj) : St w0 (w.alloc o) vo vp ve vi out op els ins := h.below (below_alloc (Below.refl _ _) o)
theorem St.forms (h : St w0 w vo vp ve vi out op els ins) (h1 : 0 < op.length) (h2 : 0 < els.length) (h3 : 0 < ins.length) : (∃ A c, vo = .slice A out.length c) ∧ (∃ g c, vp = .slice (some ⟨g, 0, none⟩) op.length c ∧ op.length ≤ c) ∧ (∃ g c, ve = .slice (some ⟨g, 0, none⟩) els.length c ∧ els.length ≤ c) ∧ (∃ g c, vi = .slice (some ⟨g, 0, none⟩) ins.length c ∧ ins.length ≤ c) := by
  obtain ⟨⟨tag, r1, r2, r3, r4⟩, hB⟩ := h
  refine ⟨Kd.R_slice r1, ?_, ?_, ?_⟩
  · obtain ⟨g, c, rfl, _⟩ := Kd.R_form r2 h1
    exact ⟨g, c, rfl, (Kd.R_reads' r2).2.1⟩
  · obtain ⟨g, c, rfl, _⟩ := Kd.R_form r3 h2
    exact ⟨g, c, rfl, (Kd.R_reads' r3).2.1⟩
  · obtain ⟨g, c, rfl, _⟩ := Kd.S_form r4 h3
    exact ⟨g, c, rfl, (Kd.S_reads' r4).2.1⟩
/-- A block of another type stays where a row is written. -/
theorem box_stays {W w1 : World} {v : Value} {e t g : Nat} {cs : Array Value} (hv : ∀ k, v.ownBlock = some k → ∃ cells, W.heap[k]? = some (.cells cells e (0, 0))) (hg : W.grownBy w1 v.ownBlock) (hne : e ≠ t) (hb : W.heap[g]? = some (.cells cs t (0, 0))) : w1.heap[g]? = some (.cells cs t (0, 0)) :=
  blk_grown hb hg (fun h => by
    obtain ⟨cells, hc⟩ := hv g h.symm
    rw [hc] at hb
    injection hb with hb
    injection hb with _ hb
    exact hne hb)
end
/-- Blocks of instructions stay. -/
def BoxKept (W w1 : World) : Prop := ∀ (g : Nat) (cs : Array Value), W.heap[g]? = some (Obj.cells cs 86 (0, 0)) → w1.heap[g]? = some (Obj.cells cs 86 (0, 0))
section
variable {ops : Array Oper} {rest : List Oper} {o : Oper} {a : Act} {Q : Exit → Act → World → Prop} {w0 W : World} {vo vp ve vi : Value} {out op : List Int} {els : List Bool} {ins : List (List Int)}
/-- open = append(open, i) -/
theorem St.app_open (h : St w0 W vo vp ve vi out op els ins) (i : Int) (hl : op.length ≤ 100000) (hgd : o.guard = none) (s x : Operand) (ho : o.op = .call { callee := .builtin .append, args := #[s, x], argTypes := #[52, 52] })
    (hs : a.eval s = vp) (b : Nat) (hx : a.eval x = .slice (some ⟨b, 0, none⟩) 1 1) (hb : b = W.heap.size)
    (K : ∀ v1 w1, St w0 w1 vo v1 ve vi out (op ++ [i]) els ins → BoxKept W w1 → wpList Try.prog ops Q rest (a.put o.dst v1) w1) : wpList Try.prog ops Q (o :: rest) a (W.alloc (.cells #[.int .i64 i] 3)) := by
  subst hb
  obtain ⟨⟨tag, r1, r2, r3, r4⟩, hB⟩ := h
  have fo := ft_old tag W.heap.size 1
  have r2' := R_retag r2 fo
  refine Kd.R_append dI (w0 := w0) w0.heap.size hgd s x 52 3 (.int .i64 0) 8 ho Try.underlying52 info_int rfl (by decide) (by decide) vp op i [.int .i64 i] (fun k => ft tag W.heap.size 1 k = 1) (fun _ => False) hs hx rfl (fun _ hk => hk.elim) (ft_new tag _ 1) r2' hB hB.size (by omega) ?_
  intro v1 w1 hR hb hg _
  have hne : ∀ c, c ≠ 1 → ∀ k, ft tag W.heap.size 1 k = c → some k ≠ vp.ownBlock := fun c hc k hk he => hc (hk ▸ (r2'.1 k he.symm))
  exact K v1 w1 ⟨⟨ft tag W.heap.size 1, Kd.R_grown (R_retag r1 fo) hg (hne 0 (by decide)), hR, Kd.R_grown (R_retag r3 fo) hg (hne 2 (by decide)), Kd.S_grown (S_retag r4 fo) hg (hne 3 (by decide))⟩, hb⟩ (fun g cs hc => box_stays (Kd.R_typed r2) hg (by decide) hc)
/-- elses = append(elses, x) -/
theorem St.app_els (h : St w0 W vo vp ve vi out op els ins) (i : Bool) (hl : els.length ≤ 100000) (hgd : o.guard = none) (s x : Operand) (ho : o.op = .call { callee := .builtin .append, args := #[s, x], argTypes := #[125, 125] })
    (hs : a.eval s = ve) (b : Nat) (hx : a.eval x = .slice (some ⟨b, 0, none⟩) 1 1) (hb : b = W.heap.size)
    (K : ∀ v1 w1, St w0 w1 vo vp v1 vi out op (els ++ [i]) ins → BoxKept W w1 → wpList Try.prog ops Q rest (a.put o.dst v1) w1) : wpList Try.prog ops Q (o :: rest) a (W.alloc (.cells #[.bool i] 4)) := by
  subst hb
  obtain ⟨⟨tag, r1, r2, r3, r4⟩, hB⟩ := h
  have fo := ft_old tag W.heap.size 2
  have r3' := R_retag r3 fo
  refine Kd.R_append Kd.bool (w0 := w0) w0.heap.size hgd s x 125 4 (.bool false) 1 ho Try.underlying125 info_bool rfl (by decide) (by decide) ve els i [.bool i] (fun k => ft tag W.heap.size 2 k = 2) (fun _ => False) hs hx rfl (fun _ hk => hk.elim) (ft_new tag _ 2) r3' hB hB.size (by omega) ?_
  intro v1 w1 hR hb hg _
  have hne : ∀ c, c ≠ 2 → ∀ k, ft tag W.heap.size 2 k = c → some k ≠ ve.ownBlock := fun c hc k hk he => hc (hk ▸ (r3'.1 k he.symm))
  exact K v1 w1 ⟨⟨ft tag W.heap.size 2, Kd.R_grown (R_retag r1 fo) hg (hne 0 (by decide)), Kd.R_grown (R_retag r2 fo) hg (hne 1 (by decide)), hR, Kd.S_grown (S_retag r4 fo) hg (hne 3 (by decide))⟩, hb⟩ (fun g cs hc => box_stays (Kd.R_typed r3) hg (by decide) hc)
/-- inside = append(inside, []int{i}) -/
theorem St.app_ins (h : St w0 W vo vp ve vi out op els ins) (i : Int) (hl : ins.length ≤ 100000) (hgd : o.guard = none) (s x : Operand) (ho : o.op = .call { callee := .builtin .append, args := #[s, x], argTypes := #[98, 98] })
    (hs : a.eval s = vi) (b b2 : Nat) (hx : a.eval x = .slice (some ⟨b, 0, none⟩) 1 1) (hb : b = W.heap.size + 1) (hb2 : b2 = W.heap.size)
    (K : ∀ v1 w1, St w0 w1 vo vp ve v1 out op els (ins ++ [[i]]) → BoxKept W w1 → wpList Try.prog ops Q rest (a.put o.dst v1) w1) : wpList Try.prog ops Q (o :: rest) a ((W.alloc (.cells #[.int .i64 i] 3)).alloc (.cells #[.slice (some ⟨b2, 0, none⟩) 1 1] 52)) := by
  subst hb2
  obtain ⟨⟨tag, r1, r2, r3, r4⟩, hB⟩ := h
  have fo := ft_old tag W.heap.size 3
  have hsz : (W.alloc (.cells #[.int .i64 i] 3)).heap.size = W.heap.size + 1 := by simp
  have r4' : Kd.S dL 52 (W.alloc (.cells #[.int .i64 i] 3)) w0.heap.size (fun k => ft tag W.heap.size 3 k = 3 ∧ ¬ k = W.heap.size) vi ins :=
    Kd.S_alloc (Kd.S_mono (Kd.S_bound (S_retag r4 fo)) (fun k hk => ⟨hk.1, by have := hk.2.2.1; omega⟩)) _
  have hp : dL.M (W.alloc (.cells #[.int .i64 i] 3)) w0.heap.size (fun k => k = W.heap.size) [i] [.slice (some ⟨W.heap.size, 0, none⟩) 1 1] := by
    refine ⟨_, rfl, Kd.R_of_own (enc := Value.int .i64) (h1 := fun _ => rfl) ?_ (fun k hk => ?_)⟩
    · exact own_lit W w0.heap.size 3 .i64 [i] hB.size (by simp)
    · simp [Value.ownBlock] at hk; exact hk.symm
  refine Kd.S_append dL (w0 := w0) w0.heap.size hgd s x 98 52 (.slice none 0 0) 24 ho Try.underlying98 info_ints rfl (by decide) (by decide) vi ins [i] [.slice (some ⟨W.heap.size, 0, none⟩) 1 1] (fun k => ft tag W.heap.size 3 k = 3) (fun k => k = W.heap.size) hs (by rw [hx, hb, hsz]) hp (fun k hk => ⟨by rw [hk]; exact ft_new tag _ 3 _ (Nat.le_refl _), fun he => by have := Kd.S_lt r4 k he.symm; omega⟩) (fun k hk => ft_new tag _ 3 k (by omega)) r4' (below_alloc hB _) (by rw [hsz]; exact Nat.le_succ_of_le hB.size) (by omega) ?_
  intro v1 w1 hR hb hg _
  have hne : ∀ c, c ≠ 3 → ∀ k, ft tag W.heap.size 3 k = c → some k ≠ vi.ownBlock := fun c hc k hk he => hc (hk ▸ ((Kd.S_R (S_retag r4 fo)).1 k he.symm))
  exact K v1 w1 ⟨⟨ft tag W.heap.size 3, Kd.R_grown (Kd.R_alloc (R_retag r1 fo) _) hg (hne 0 (by decide)), Kd.R_grown (Kd.R_alloc (R_retag r2 fo) _) hg (hne 1 (by decide)), Kd.R_grown (Kd.R_alloc (R_retag r3 fo) _) hg (hne 2 (by decide)), hR⟩, hb⟩ (fun g cs hc => box_stays (W := W.alloc (.cells #[.int .i64 i] 3)) (Kd.S_typed (Kd.S_alloc r4 _)) hg (by decide) (blk_alloc hc _))
/-- inside = append(inside, nil), inside nil: the first. -/
theorem St.app_nil (h : St w0 W vo vp ve (.slice none 0 0) out op els []) (hgd : o.guard = none) (s x : Operand) (ho : o.op = .call { callee := .builtin .append, args := #[s, x], argTypes := #[98, 98] })
    (hs : a.eval s = .slice none 0 0) (b : Nat) (hx : a.eval x = .slice (some ⟨b, 0, none⟩) 1 1) (hb : b = W.heap.size)
    (K : ∀ v1 w1, St w0 w1 vo vp ve v1 out op els [[]] → wpList Try.prog ops Q rest (a.put o.dst v1) w1) : wpList Try.prog ops Q (o :: rest) a (W.alloc (.cells #[.slice none 0 0] 52)) := by
  subst hb
  obtain ⟨⟨tag, r1, r2, r3, r4⟩, hB⟩ := h
  have fo := ft_old tag W.heap.size 3
  refine Kd.S_append dL (w0 := w0) w0.heap.size hgd s x 98 52 (.slice none 0 0) 24 ho Try.underlying98 info_ints rfl (by decide) (by decide) (.slice none 0 0) [] [] [.slice none 0 0] (fun k => ft tag W.heap.size 3 k = 3) (fun k => False) hs hx ⟨_, rfl, Kd.R_nil _ _ _ _ _⟩ (fun k hk => hk.elim) (fun k hk => ft_new tag _ 3 k hk) (Kd.S_nil _ _ _ _ _) hB hB.size (by simp) ?_
  intro v1 w1 hR hb hg _
  have hne : ∀ c, c ≠ 3 → ∀ k, ft tag W.heap.size 3 k = c → some k ≠ (Value.slice none 0 0).ownBlock := fun c hc k hk he => by simp [Value.ownBlock] at he
  exact K v1 w1 ⟨⟨ft tag W.heap.size 3, Kd.R_grown (R_retag r1 fo) hg (hne 0 (by decide)), Kd.R_grown (R_retag r2 fo) hg (hne 1 (by decide)), Kd.R_grown (R_retag r3 fo) hg (hne 2 (by decide)), hR⟩, hb⟩
end
section
variable {w0 w w1 : World} {vo vp ve vi : Value} {out op : List Int} {els : List Bool} {ins : List (List Int)} {g n c : Nat}
theorem St.op_form (h : St w0 w vo vp ve vi out op els ins) : ∃ A c, vp = .slice A op.length c := by
  obtain ⟨⟨tag, r1, r2, r3, r4⟩, hB⟩ := h
  exact Kd.R_slice r2
theorem St.els_cell (h : St w0 w vo vp (.slice (some ⟨g, 0, none⟩) n c) vi out op els ins) (i : Nat) (hi : i < els.length) : w.cell? ⟨g, i, none⟩ = some (.bool els[i]) ∧ w.frozen? ⟨g, i, none⟩ = false := by
  obtain ⟨⟨tag, r1, r2, r3, r4⟩, hB⟩ := h
  have hn := (Kd.R_reads' r3).1
  have := Kd.R_celln (enc := Value.bool) (h1 := fun _ => rfl) false r3 (i : Int) (by omega) (by omega)
  rw [Int.toNat_natCast] at this
  simpa [rdOf, List.getD_eq_getElem?_getD, List.getElem?_eq_getElem hi] using this
theorem St.set_els (h : St w0 w vo vp (.slice (some ⟨g, 0, none⟩) n c) vi out op els ins) (i : Nat) (x : Bool) : St w0 (w.setCell ⟨g, i, none⟩ (.bool x)) vo vp (.slice (some ⟨g, 0, none⟩) n c) vi out op (els.set i x) ins ∧ BoxKept w (w.setCell ⟨g, i, none⟩ (.bool x)) := by
  obtain ⟨⟨tag, r1, r2, r3, r4⟩, hB⟩ := h
  obtain ⟨hR, hg⟩ := Kd.R_putg (enc := Value.bool) (h1 := fun _ => rfl) r3 (i : Int) x
  rw [Int.toNat_natCast] at hR hg
  have hgo : (Value.slice (some ⟨g, 0, none⟩) n c).ownBlock = some g := by simp [Value.ownBlock]
  have h3 := r3.1 g hgo
  have hne : ∀ q, q ≠ 2 → ∀ k, tag k = q → some k ≠ some g := fun q hq k hk he => hq (by injection he with he; subst he; exact hk ▸ h3)
  exact ⟨⟨⟨tag, Kd.R_grown r1 hg (hne 0 (by decide)), Kd.R_grown r2 hg (hne 1 (by decide)), hR, Kd.S_grown r4 hg (hne 3 (by decide))⟩, below_set hB (Kd.R_base r3 g hgo)⟩, fun b cs hc => box_stays (v := .slice (some ⟨g, 0, none⟩) n c) (Kd.R_typed r3) (by rw [hgo]; exact hg) (by decide) hc⟩
theorem St.out_cell (h : St w0 w (.slice (some ⟨g, 0, none⟩) n c) vp ve vi out op els ins) (i : Nat) (hi : i < out.length) : w.cell? ⟨g, i, none⟩ = some (.int .i64 out[i]) ∧ w.frozen? ⟨g, i, none⟩ = false := by
  obtain ⟨⟨tag, r1, r2, r3, r4⟩, hB⟩ := h
  have hn := (Kd.R_reads' r1).1
  have := Kd.R_celln (enc := Value.int .i64) (h1 := fun _ => rfl) 0 r1 (i : Int) (by omega) (by omega)
  rw [Int.toNat_natCast] at this
  simpa [rdOf, List.getD_eq_getElem?_getD, List.getElem?_eq_getElem hi] using this
/-- A store into out: the other rows' cells stay. -/
theorem St.set_out (h : St w0 w (.slice (some ⟨g, 0, none⟩) n c) vp ve vi out op els ins) (i : Nat) (x : Int) : St w0 (w.setCell ⟨g, i, none⟩ (.int .i64 x)) (.slice (some ⟨g, 0, none⟩) n c) vp ve vi (out.set i x) op els ins ∧ BoxKept w (w.setCell ⟨g, i, none⟩ (.int .i64 x)) ∧ (∀ k, vi.ownBlock = some k → ∀ j, (w.setCell ⟨g, i, none⟩ (.int .i64 x)).cell? ⟨k, j, none⟩ = w.cell? ⟨k, j, none⟩) := by
  obtain ⟨⟨tag, r1, r2, r3, r4⟩, hB⟩ := h
  obtain ⟨hR, hg⟩ := Kd.R_putg (enc := Value.int .i64) (h1 := fun _ => rfl) r1 (i : Int) x
  rw [Int.toNat_natCast] at hR hg
  have hgo : (Value.slice (some ⟨g, 0, none⟩) n c).ownBlock = some g := by simp [Value.ownBlock]
  have h3 := r1.1 g hgo
  have hne : ∀ q, q ≠ 0 → ∀ k, tag k = q → some k ≠ some g := fun q hq k hk he => hq (by injection he with he; subst he; exact hk ▸ h3)
  exact ⟨⟨⟨tag, hR, Kd.R_grown r2 hg (hne 1 (by decide)), Kd.R_grown r3 hg (hne 2 (by decide)), Kd.S_grown r4 hg (hne 3 (by decide))⟩, below_set hB (Kd.R_base r1 g hgo)⟩, fun b cs hc => box_stays (v := .slice (some ⟨g, 0, none⟩) n c) (Kd.R_typed r1) (by rw [hgo]; exact hg) (by decide) hc, fun k hk j => World.cell?_of_block (hg.block k (Kd.S_lt r4 k hk) (hne 3 (by decide) k ((Kd.S_R r4).1 k hk)))⟩
/-- The value of an inner row. -/
theorem St.ins_cell (h : St w0 w vo vp ve (.slice (some ⟨g, 0, none⟩) n c) out op els ins) (i : Nat) (hi : i < ins.length) : ∃ A m, w.cell? ⟨g, i, none⟩ = some (.slice A ins[i].length m) ∧ w.frozen? ⟨g, i, none⟩ = false ∧ ReadsInt w .i64 A ins[i].length ins[i] := by
  obtain ⟨⟨tag, r1, r2, r3, r4⟩, hB⟩ := h
  have hn := (Kd.S_reads' r4).1
  obtain ⟨oki, cc, hcl, hM, hcc, hfr, hok, hH⟩ := Kd.S_elem r4 [] (i : Int) (by omega) (by omega)
  obtain ⟨u, rfl, hR⟩ := hM
  rw [Int.toNat_natCast] at hcc hfr hR
  have e : ins.getD i [] = ins[i] := by simp [List.getD_eq_getElem?_getD, List.getElem?_eq_getElem hi]
  rw [e] at hR
  obtain ⟨A, m, rfl, hm, hC⟩ := Kd.R_reads hR
  have h0 := hcc 0 _ rfl
  have f0 := hfr 0
  rw [show i * dL.sz + 0 = i from by show i * 1 + 0 = i; omega] at h0 f0
  exact ⟨A, m, h0, f0, Kd.reads_of_C (enc := Value.int .i64) (d := (0 : Int)) (h1 := fun _ => rfl) hC⟩
/-- The same, the cell being known: what is read. -/
theorem St.ins_reads (h : St w0 w vo vp ve (.slice (some ⟨g, 0, none⟩) n c) out op els ins) (i : Nat) (hi : i < ins.length) {A : Option Addr} {m l : Nat} (hc : w.cell? ⟨g, i, none⟩ = some (.slice A l m)) : ReadsInt w .i64 A ins[i].length ins[i] := by
  obtain ⟨A', m', h0, _, h2⟩ := h.ins_cell i hi
  rw [h0] at hc
  injection hc with hc
  injection hc with e1 e2 e3
  subst e1
  exact h2
theorem St.takes (h : St w0 w vo vp ve vi out op els ins) {Ap Ae Ai : Option Addr} {np ne ni cp ce ci m : Nat} (ep : vp = .slice Ap np cp) (ee : ve = .slice Ae ne ce) (ei : vi = .slice Ai ni ci) (h1 : m ≤ op.length) (h2 : m ≤ els.length) (h3 : m ≤ ins.length) : St w0 w vo (.slice Ap m cp) (.slice Ae m ce) (.slice Ai m ci) out (op.take m) (els.take m) (ins.take m) := by
  subst ep; subst ee; subst ei
  obtain ⟨⟨tag, r1, r2, r3, r4⟩, hB⟩ := h
  exact ⟨⟨tag, r1, Kd.R_take r2 h1, Kd.R_take r3 h2, Kd.S_take r4 h3⟩, hB⟩
/-- The rows while an inner one is between two stores. -/
structure Hole (w0 w : World) (vo vp ve : Value) (g n c : Nat) (out op : List Int) (els : List Bool) (ins : List (List Int)) (i : Nat) (u : Value) (row : List Int) : Prop where
  rows : ∃ tag : Nat → Nat, dI.R 3 w w0.heap.size (fun k => tag k = 0) vo out ∧ dI.R 3 w w0.heap.size (fun k => tag k = 1) vp op ∧ Kd.bool.R 4 w w0.heap.size (fun k => tag k = 2) ve els ∧ ∃ oki cc, cc.length = 1 ∧ dI.R 3 w w0.heap.size oki u row ∧ Kd.H dL 52 w w0.heap.size (fun k => tag k = 3) (.slice (some ⟨g, 0, none⟩) n c) ins (i : Int) oki cc
  bel : Below w0.heap.size w0 w
end
section
variable {ops : Array Oper} {rest : List Oper} {o : Oper} {a : Act} {Q : Exit → Act → World → Prop} {w0 W : World} {vo vp ve vi : Value} {out op : List Int} {els : List Bool} {ins : List (List Int)} {g n c : Nat}
/-- append(inside[i], x) -/
theorem St.app_top (h : St w0 W vo vp ve (.slice (some ⟨g, 0, none⟩) n c) out op els ins) (i : Nat) (hi : i < ins.length) (x : Int) (hl : ins[i].length ≤ 100000) (u : Value) (hu : W.cell? ⟨g, i, none⟩ = some u) (hgd : o.guard = none) (s y : Operand) (ho : o.op = .call { callee := .builtin .append, args := #[s, y], argTypes := #[52, 52] })
    (hs : a.eval s = u) (b : Nat) (hy : a.eval y = .slice (some ⟨b, 0, none⟩) 1 1) (hb : b = W.heap.size)
    (K : ∀ v1 w1, Hole w0 w1 vo vp ve g n c out op els ins i v1 (ins[i] ++ [x]) → BoxKept W w1 → wpList Try.prog ops Q rest (a.put o.dst v1) w1) : wpList Try.prog ops Q (o :: rest) a (W.alloc (.cells #[.int .i64 x] 3)) := by
  subst hb
  obtain ⟨⟨tag, r1, r2, r3, r4⟩, hB⟩ := h
  have fo := ft_old tag W.heap.size 3
  have hn := (Kd.S_reads' r4).1
  obtain ⟨oki, cc, hcl, hM, hcc, hfr, hok, hH⟩ := Kd.S_elem (S_retag r4 fo) [] (i : Int) (by omega) (by omega)
  obtain ⟨u', rfl, hR⟩ := hM
  rw [Int.toNat_natCast] at hcc hR
  have e : ins.getD i [] = ins[i] := by simp [List.getD_eq_getElem?_getD, List.getElem?_eq_getElem hi]
  rw [e] at hR
  have h0 := hcc 0 _ rfl
  rw [show i * dL.sz + 0 = i from by show i * 1 + 0 = i; omega, hu] at h0
  injection h0 with h0
  subst h0
  have hW := Kd.H_widen hH
  have hR' : dI.R 3 W w0.heap.size (fun k => oki k ∨ ft tag W.heap.size 3 k = 3 ∧ W.heap.size ≤ k) u ins[i] := Kd.R_mono hR (fun k hk => .inl hk)
  refine Kd.R_append dI (w0 := w0) w0.heap.size hgd s y 52 3 (.int .i64 0) 8 ho Try.underlying52 info_int rfl (by decide) (by decide) u ins[i] x [.int .i64 x] (fun k => oki k ∨ ft tag W.heap.size 3 k = 3 ∧ W.heap.size ≤ k) (fun _ => False) hs hy rfl (fun _ hk => hk.elim) (fun k hk => .inr ⟨ft_new tag _ 3 k hk, hk⟩) hR' hB hB.size (by omega) ?_
  intro v1 w1 hR1 hb1 hg _
  have h3 : ∀ k, u.ownBlock = some k → ft tag W.heap.size 3 k = 3 := fun k hk => by
    rcases hR'.1 k hk with h | h
    · exact (hok k h).1
    · exact h.1
  have hne : ∀ q, q ≠ 3 → ∀ k, ft tag W.heap.size 3 k = q → some k ≠ u.ownBlock := fun q hq k hk he => hq (hk ▸ h3 k he.symm)
  exact K v1 w1 ⟨⟨ft tag W.heap.size 3, Kd.R_grown (R_retag r1 fo) hg (hne 0 (by decide)), Kd.R_grown (R_retag r2 fo) hg (hne 1 (by decide)), Kd.R_grown (R_retag r3 fo) hg (hne 2 (by decide)), _, _, rfl, hR1, Kd.H_grown hW hg (fun k hk => hR'.1 k hk)⟩, hb1⟩ (fun b cs hc => box_stays (Kd.R_typed hR) hg (by decide) hc)
/-- inside[i] = (what was appended to) -/
theorem Hole.store {u : Value} {row : List Int} {i : Nat} (h : Hole w0 W vo vp ve g n c out op els ins i u row) (hi : i < n) (hN : o.dst = none) (hgd : o.guard = none) (p x : Operand) (ho : o.op = .store 52 p x)
    (haddr : a.eval p = .pointer (some ⟨g, i, none⟩)) (hx : a.eval x = u)
    (K : ∀ w1, St w0 w1 vo vp ve (.slice (some ⟨g, 0, none⟩) n c) out op els (ins.set i row) → BoxKept W w1 → wpList Try.prog ops Q rest a w1) : wpList Try.prog ops Q (o :: rest) a W := by
  obtain ⟨⟨tag, r1, r2, r3, oki, cc, hcl, hR, hH⟩, hB⟩ := h
  have hc1 : cc.take 0 ++ [u] ++ cc.drop (0 + 1) = [u] := by rw [List.drop_of_length_le (by omega)]; simp
  have hok : ∀ k, oki k → tag k = 3 := hH.1
  refine Kd.H_store dL (w0 := w0) w0.heap.size hN hgd 52 p x ho 52 (i : Int) 0 ins row u [u] cc (fun k => tag k = 3) oki oki haddr (by show i = i * 1 + 0; omega) hx (Kd.R_val hR).1 (by kernel_rfl) (by intro q hq; rw [List.mem_singleton.1 hq]; exact (Kd.R_val hR).2) hH (by omega) (by omega) (Nat.le_refl 1) (by rw [show cc.take 0 ++ [u] ++ cc.drop (0 + [u].length) = [u] from hc1]; exact ⟨u, rfl, hR⟩) (fun _ hk => hk) hB ?_
  intro w1 hS hb hg
  rw [Int.toNat_natCast] at hS
  have h3 : tag g = 3 := by
    obtain ⟨_, f, hF⟩ := hH
    exact (hF.1 g (by simp [Value.ownBlock])).1
  have hgt : ∃ cells, W.heap[g]? = some (Obj.cells cells 52 (0, 0)) := by
    obtain ⟨_, f, hF⟩ := hH
    exact Kd.R_typed hF g (by simp [Value.ownBlock])
  have hne : ∀ q, q ≠ 3 → ∀ k, tag k = q → some k ≠ some g := fun q hq k hk he => hq (by injection he with he; subst he; exact hk ▸ h3)
  exact K w1 ⟨⟨tag, Kd.R_grown r1 hg (hne 0 (by decide)), Kd.R_grown r2 hg (hne 1 (by decide)), Kd.R_grown r3 hg (hne 2 (by decide)), hS⟩, hb⟩ (fun b cs hc => blk_grown hc hg (fun he => by
    injection he with he
    subst he
    obtain ⟨cells, hcc⟩ := hgt
    rw [hc] at hcc
    injection hcc with hcc
    injection hcc with _ hcc
    exact absurd hcc (by decide)))
end
theorem St.init {w0 X : World} (hB : Below w0.heap.size w0 X) (n : Nat) (hn : n ≤ 1048576) (x : Int) (y : Bool) : St w0 (((X.alloc (.cells (madeCells #[.int .i64 0] n) 3)).alloc (.cells #[.int .i64 x] 3)).alloc (.cells #[.bool y] 4)) (.slice (some ⟨X.heap.size, 0, none⟩) n n) (.slice (some ⟨X.heap.size + 1, 0, none⟩) 1 1) (.slice (some ⟨X.heap.size + 1 + 1, 0, none⟩) 1 1) (.slice none 0 0) (List.replicate n 0) [x] [y] [] := by
  have s1 : (X.alloc (.cells (madeCells #[.int .i64 0] n) 3)).heap.size = X.heap.size + 1 := by simp
  have s2 : ((X.alloc (.cells (madeCells #[.int .i64 0] n) 3)).alloc (.cells #[.int .i64 x] 3)).heap.size = X.heap.size + 1 + 1 := by simp
  have hb := hB.size
  refine ⟨⟨fun k => if k = X.heap.size then 0 else if k = X.heap.size + 1 then 1 else 2, ?_, ?_, ?_, Kd.S_nil _ _ _ _ _⟩, below_alloc (below_alloc (below_alloc hB _) _) _⟩
  · refine Kd.R_alloc (Kd.R_alloc (Kd.R_of_own (enc := Value.int .i64) (h1 := fun _ => rfl) ?_ (fun k hk => ?_)) _) _
    · have := own_made X w0.heap.size 3 .i64 n hb (by omega)
      rw [List.length_replicate]
      exact this
    · simp [Value.ownBlock] at hk; subst hk; exact if_pos rfl
  · refine Kd.R_alloc (Kd.R_of_own (enc := Value.int .i64) (h1 := fun _ => rfl) ?_ (fun k hk => ?_)) _
    · have := own_lit (X.alloc (.cells (madeCells #[.int .i64 0] n) 3)) w0.heap.size 3 .i64 [x] (by omega) (by simp)
      rw [s1] at this
      exact this
    · simp [Value.ownBlock] at hk; subst hk; show (if _ then _ else _) = _; rw [if_neg (by omega), if_pos rfl]
  · refine Kd.R_of_own (enc := Value.bool) (h1 := fun _ => rfl) ?_ (fun k hk => ?_)
    · have := own_lit_of (enc := Value.bool) ((X.alloc (.cells (madeCells #[.int .i64 0] n) 3)).alloc (.cells #[.int .i64 x] 3)) w0.heap.size 4 [y] (by omega) (by simp)
      rw [s2] at this
      exact this
    · simp [Value.ownBlock] at hk; subst hk; show (if _ then _ else _) = _; rw [if_neg (by omega), if_neg (by omega)]
section
variable {w0 w w1 : World} {vo vp ve vi : Value} {out op : List Int} {els : List Bool} {ins : List (List Int)} {g n c : Nat}
theorem St.op_pos (h : St w0 w vo vp ve vi out op els ins) (hp : 0 < op.length) : ∃ g c, vp = .slice (some ⟨g, 0, none⟩) op.length c ∧ op.length ≤ c := by
  obtain ⟨⟨tag, r1, r2, r3, r4⟩, hB⟩ := h
  obtain ⟨g, c, rfl, _⟩ := Kd.R_form r2 hp
  exact ⟨g, c, rfl, (Kd.R_reads' r2).2.1⟩
theorem St.op_cell (h : St w0 w vo (.slice (some ⟨g, 0, none⟩) n c) ve vi out op els ins) (i : Nat) (hi : i < op.length) : w.cell? ⟨g, i, none⟩ = some (.int .i64 op[i]) ∧ w.frozen? ⟨g, i, none⟩ = false := by
  obtain ⟨⟨tag, r1, r2, r3, r4⟩, hB⟩ := h
  have hn := (Kd.R_reads' r2).1
  have := Kd.R_celln (enc := Value.int .i64) (h1 := fun _ => rfl) 0 r2 (i : Int) (by omega) (by omega)
  rw [Int.toNat_natCast] at this
  simpa [rdOf, List.getD_eq_getElem?_getD, List.getElem?_eq_getElem hi] using this
theorem St.set_op (h : St w0 w vo (.slice (some ⟨g, 0, none⟩) n c) ve vi out op els ins) (i : Nat) (x : Int) : St w0 (w.setCell ⟨g, i, none⟩ (.int .i64 x)) vo (.slice (some ⟨g, 0, none⟩) n c) ve vi out (op.set i x) els ins := by
  obtain ⟨⟨tag, r1, r2, r3, r4⟩, hB⟩ := h
  obtain ⟨hR, hg⟩ := Kd.R_putg (enc := Value.int .i64) (h1 := fun _ => rfl) r2 (i : Int) x
  rw [Int.toNat_natCast] at hR hg
  have hgo : (Value.slice (some ⟨g, 0, none⟩) n c).ownBlock = some g := by simp [Value.ownBlock]
  have h3 := r2.1 g hgo
  have hne : ∀ q, q ≠ 1 → ∀ k, tag k = q → some k ≠ some g := fun q hq k hk he => hq (by injection he with he; subst he; exact hk ▸ h3)
  exact ⟨⟨tag, Kd.R_grown r1 hg (hne 0 (by decide)), hR, Kd.R_grown r3 hg (hne 2 (by decide)), Kd.S_grown r4 hg (hne 3 (by decide))⟩, below_set hB (Kd.R_base r2 g hgo)⟩
theorem St.take_op {A : Option Addr} {m : Nat} (h : St w0 w vo (.slice A n c) ve vi out op els ins) (hm : m ≤ op.length) : St w0 w vo (.slice A m c) ve vi out (op.take m) els ins := by
  obtain ⟨⟨tag, r1, r2, r3, r4⟩, hB⟩ := h
  exact ⟨⟨tag, r1, Kd.R_take r2 hm, r3, r4⟩, hB⟩
/-- One row alone. -/
theorem St.init1 {w0 X : World} (hB : Below w0.heap.size w0 X) (x : Int) : St w0 (X.alloc (.cells #[.int .i64 x] 3)) (.slice none 0 0) (.slice (some ⟨X.heap.size, 0, none⟩) 1 1) (.slice none 0 0) (.slice none 0 0) [] [x] [] [] := by
  refine ⟨⟨fun _ => 1, Kd.R_nil _ _ _ _ _, ?_, Kd.R_nil _ _ _ _ _, Kd.S_nil _ _ _ _ _⟩, below_alloc hB _⟩
  exact Kd.R_of_own (enc := Value.int .i64) (h1 := fun _ => rfl) (own_lit X w0.heap.size 3 .i64 [x] hB.size (by simp)) (fun k hk => rfl)
/-- A row made and an empty one. -/
theorem St.init2 {w0 X : World} (hB : Below w0.heap.size w0 X) (n : Nat) (hn : n ≤ 1048576) : St w0 ((X.alloc (.cells (madeCells #[.int .i64 0] n) 3)).alloc (.cells #[] 3)) (.slice (some ⟨X.heap.size, 0, none⟩) n n) (.slice (some ⟨X.heap.size + 1, 0, none⟩) 0 0) (.slice none 0 0) (.slice none 0 0) (List.replicate n 0) [] [] [] := by
  have s1 : (X.alloc (.cells (madeCells #[.int .i64 0] n) 3)).heap.size = X.heap.size + 1 := by simp
  have hb := hB.size
  refine ⟨⟨fun k => if k = X.heap.size then 0 else 1, ?_, ?_, Kd.R_nil _ _ _ _ _, Kd.S_nil _ _ _ _ _⟩, below_alloc (below_alloc hB _) _⟩
  · refine Kd.R_alloc (Kd.R_of_own (enc := Value.int .i64) (h1 := fun _ => rfl) ?_ (fun k hk => ?_)) _
    · have := own_made X w0.heap.size 3 .i64 n hb (by omega)
      rw [List.length_replicate]
      exact this
    · simp [Value.ownBlock] at hk; subst hk; exact if_pos rfl
  · refine Kd.R_of_own (enc := Value.int .i64) (h1 := fun _ => rfl) ?_ (fun k hk => ?_)
    · have := own_lit (X.alloc (.cells (madeCells #[.int .i64 0] n) 3)) w0.heap.size 3 .i64 [] (by omega) (by simp)
      rw [s1] at this
      exact this
    · simp [Value.ownBlock] at hk; subst hk; show (if _ then _ else _) = _; rw [if_neg (by omega)]
end
end Go.Proofs.Ytfncjcnlndoelaa.OwnSt
namespace Go.Proofs.Ytfncjcnlndoelaa.OwnEndsS
open Go Go.RowKit Go.Proofs.YtfncjcnlndoelaaW.PrintWords Go.Proofs.YtfncjcnlndoelaaW.PrintLast Go.Proofs.YtfncjcnlndoelaaW.PrintMore Go.Proofs.Ytfncjcnlndoelaa.OwnBs Go.Proofs.Ytfncjcnlndoelaa.OwnKp Go.Proofs.Ytfncjcnlndoelaa.OwnCode Go.Proofs.Ytfncjcnlndoelaa.OwnSt
set_option linter.unusedVariables false
set_option linter.unusedSimpArgs false
/-- What the reference's walk over a body holds. -/
structure EndSt where
  out : List Int
  op : List Int
  els : List Bool
  ins : List (List Int)
  deep : Nat
/-- The ends of these are i. -/
def setAll (out : List Int) (ks : List Int) (i : Int) : List Int := ks.foldl (fun o k => o.set k.toNat i) out
def stepE (i : Nat) (x : Int) (s : EndSt) : Option EndSt :=
  if s.op.length = 0 then none
  else if x = 2 ∨ x = 3 ∨ x = 4 then some ⟨s.out, s.op ++ [(i : Int)], s.els ++ [x != 4], s.ins ++ [[(i : Int)]], if s.deep < s.op.length + 1 then s.op.length + 1 else s.deep⟩
  else if x = 5 ∧ s.els.getD (s.op.length - 1) false = true then none
  else
    let row := s.ins.getD (s.op.length - 1) [] ++ [(i : Int)]
    let ins := s.ins.set (s.op.length - 1) row
    let els := if x = 5 then s.els.set (s.op.length - 1) true else s.els
    if x = 11 then some ⟨setAll s.out row i, s.op.take (s.op.length - 1), els.take (s.op.length - 1), ins.take (s.op.length - 1), s.deep⟩
    else some ⟨s.out, s.op, els, ins, s.deep⟩
def runE : List (Int × Int) → Nat → EndSt → Option EndSt
  | [], _, s => some s
  | x :: xs, i, s => (stepE i x.1 s).bind (runE xs (i + 1))
def iniE (L : Nat) : EndSt := ⟨List.replicate L 0, [-1], [true], [[]], 1⟩
/-- What the reference tells of a body. -/
def resE : Option EndSt → List Int × Nat × Bool
  | none => ([], 0, false)
  | some s => (s.out, s.deep, s.op.length == 0)
def endsM (l : List (Int × Int)) : List Int × Nat × Bool :=
  if goodC l = true ∧ l ≠ [] then resE (runE l 0 (iniE l.length)) else ([], 0, false)
/-- What holds ahead of place i. -/
structure InvE (L i : Nat) (s : EndSt) : Prop where
  e1 : s.els.length = s.op.length
  e2 : s.ins.length = s.op.length
  e3 : s.op.length ≤ i + 1
  e4 : s.deep ≤ i + 1
  e5 : s.out.length = L
  e6 : ∀ r ∈ s.ins, r.length ≤ i ∧ ∀ k ∈ r, 0 ≤ k ∧ k < (i : Int)
theorem inv_ini (L : Nat) : InvE L 0 (iniE L) := ⟨rfl, rfl, by simp [iniE], by simp [iniE], by simp [iniE], by simp [iniE]⟩
theorem setAll_len (ks : List Int) : ∀ (out : List Int) (i : Int), (setAll out ks i).length = out.length := by
  induction ks with
  | nil => intro out i; rfl
  | cons k ks ih => intro out i; show (setAll (out.set k.toNat i) ks i).length = _; rw [ih, List.length_set]
theorem inv_step {L i : Nat} {x : Int} {s s' : EndSt} (h : InvE L i s) (hs : stepE i x s = some s') : InvE L (i + 1) s' := by
  obtain ⟨e1, e2, e3, e4, e5, e6⟩ := h
  unfold stepE at hs
  by_cases c0 : s.op.length = 0
  · rw [if_pos c0] at hs; cases hs
  · rw [if_neg c0] at hs
    by_cases c1 : x = 2 ∨ x = 3 ∨ x = 4
    · rw [if_pos c1] at hs
      injection hs with hs
      subst hs
      refine ⟨by simp [e1], by simp [e2], by simp; omega, by simp only; split <;> omega, e5, fun r hr => ?_⟩
      simp only [List.mem_append, List.mem_singleton] at hr
      rcases hr with hr | rfl
      · have := e6 r hr
        exact ⟨by omega, fun k hk => by have := this.2 k hk; omega⟩
      · exact ⟨by simp, fun k hk => by simp at hk; omega⟩
    · rw [if_neg c1] at hs
      by_cases c2 : x = 5 ∧ s.els.getD (s.op.length - 1) false = true
      · rw [if_pos c2] at hs; cases hs
      · rw [if_neg c2] at hs
        have hrow : ∀ r ∈ s.ins.set (s.op.length - 1) (s.ins.getD (s.op.length - 1) [] ++ [(i : Int)]), r.length ≤ i + 1 ∧ ∀ k ∈ r, 0 ≤ k ∧ k < ((i + 1 : Nat) : Int) := by
          intro r hr
          rcases List.mem_or_eq_of_mem_set hr with hr | rfl
          · have := e6 r hr
            exact ⟨by omega, fun k hk => by have := this.2 k hk; omega⟩
          · have hm : s.ins.getD (s.op.length - 1) [] ∈ s.ins := by
              rw [List.getD_eq_getElem?_getD, List.getElem?_eq_getElem (by omega)]
              exact List.getElem_mem _
            have := e6 _ hm
            refine ⟨by rw [List.length_append, List.length_singleton]; omega, fun k hk => ?_⟩
            simp only [List.mem_append, List.mem_singleton] at hk
            rcases hk with hk | rfl
            · have := this.2 k hk; omega
            · omega
        have hels : (if x = 5 then s.els.set (s.op.length - 1) true else s.els).length = s.op.length := by split <;> simp [e1]
        by_cases c3 : x = 11
        · simp only [if_pos c3] at hs
          injection hs with hs
          subst hs
          refine ⟨?_, ?_, ?_, by simp only; omega, ?_, fun r hr => hrow r (List.mem_of_mem_take hr)⟩
          · show (List.take _ _).length = (List.take _ _).length
            rw [List.length_take, List.length_take, hels]
          · show (List.take _ _).length = (List.take _ _).length
            rw [List.length_take, List.length_take, List.length_set, e2]
          · show (List.take _ _).length ≤ _
            rw [List.length_take]; omega
          · show (setAll _ _ _).length = _
            rw [setAll_len, e5]
        · simp only [if_neg c3] at hs
          injection hs with hs
          subst hs
          exact ⟨hels, by simp [e2], by simp only; omega, by simp only; omega, e5, hrow⟩
def EndsPost (w : World) (r : List Int × Nat × Bool) (e : Ending) (w' : World) : Prop := ∃ v, e = .returned (.tuple #[v, .int .i64 r.2.1, .bool r.2.2]) ∧ dI.R 3 w' w.heap.size (fun _ => True) v r.1 ∧ Below w.heap.size w w'
set_option maxRecDepth 100000 in
set_option maxHeartbeats 4000000 in
theorem ends_no (A : Option Addr) (c : Nat) (l : List (Int × Int)) (w : World) (hr : Kd.C kI w A l.length l) (hc : l.length ≤ c) (hl : l.length ≤ 1048576) (g : goodC l = false ∨ l = []) : Calls Try.prog 56 #[.slice A l.length c] w (EndsPost w ([], 0, false)) := by
  have cg := fun w hr => good_s A c l w hr hc hl
  have HR := Aside0.mk hr
  clear hr
  rcases g with g | rfl
  · rw [g] at cg
    clear g
    go_enter Try.func56, Try.ntmps56
    go_wp2_with fail
    refine (cg _ HR.out).mono ?_
    rintro e w1 ⟨rfl, B1⟩
    go_wp2_with fail
    go_ret3
    exact ⟨_, rfl, Kd.R_nil _ _ _ _ _, B1⟩
  · have e : goodC [] = true := rfl
    rw [e] at cg
    clear e
    go_enter Try.func56, Try.ntmps56
    go_wp2_with fail
    refine (cg _ HR.out).mono ?_
    rintro e w1 ⟨rfl, B1⟩
    go_wp2_with fail
    go_ret3
    exact ⟨_, rfl, Kd.R_nil _ _ _ _ _, B1⟩
set_option maxRecDepth 100000 in
set_option maxHeartbeats 40000000 in
theorem ends_yes (A : Option Addr) (c : Nat) (l : List (Int × Int)) (w : World) (hr : Kd.C kI w A l.length l) (hc : l.length ≤ c) (g : goodC l = true) (g0 : l ≠ []) (R : Option EndSt) (hRun : runE l 0 (iniE l.length) = R) (res : List Int × Nat × Bool) (hres : res = resE R) : Calls Try.prog 56 #[.slice A l.length c] w (EndsPost w res) := by
  have hl2 := goodC_len g
  have cg := fun w hr => good_s A c l w hr hc (by omega)
  have HR := Aside0.mk hr
  have hl0 : 0 < l.length := List.length_pos_iff.2 g0
  have HRun := Aside0.mk hRun
  have HRes := Aside0.mk hres
  rw [g] at cg
  clear hr g g0 hRun hres
  have hlb : ((l.length : Int) == 0) = false := beq_eq_false_iff_ne.2 (by omega)
  have hmk := print_make (P := Try.prog) 52 3 .i64 8 Try.underlying52 info_int (by decide) l.length (by omega)
  go_enter Try.func56, Try.ntmps56
  go_wp2_with fail
  refine (cg _ HR.out).mono ?_
  rintro e w1 ⟨rfl, B1⟩
  clear cg
  have S0 := St.init B1 l.length (by omega) (-1) true
  go_wp2_with (at_builtin; refine S0.app_nil rfl _ _ rfl rfl _ rfl (by simp) ?_; intro v9 w2 S1)
  clear hmk hlb
  generalize w1.heap.size = b0 at *
  go_loopg [6, 7, 8, 9, 33] l.length (fun kq v6 v7 v8 v9 v33 w' => ∃ (i : Nat) (s : EndSt), i + kq = l.length ∧ v6 = .int .i64 s.deep ∧ v33 = .int .i64 i ∧ St w w' (.slice (some ⟨b0, 0, none⟩) l.length l.length) v7 v8 v9 s.out s.op s.els s.ins ∧ Aside0 (InvE l.length i s) ∧ Aside0 (runE (l.drop i) i s = R))
  case atStart => exact ⟨0, iniE l.length, by omega, rfl, rfl, S1, ⟨inv_ini _⟩, ⟨HRun.out⟩⟩
  case round =>
    clear S0 S1 B1 HRun
    obtain ⟨i, s, hi, rfl, rfl, HS, HI, HQ⟩ := hrel
    cases gk with
    | zero =>
      obtain rfl : i = l.length := by omega
      have hq := HQ.out
      rw [List.drop_length] at hq
      have hre := HRes.out
      rw [← hq] at hre
      subst hre
      have hd : decide ((l.length : Int) < (l.length : Int)) = false := decide_eq_false (by omega)
      obtain ⟨⟨tag, r1, r2, r3, r4⟩, hB⟩ := HS
      obtain ⟨A7, c7, rfl⟩ := Kd.R_slice r2
      have he : (((s.op.length : Nat) : Int) == 0) = (s.op.length == 0) := by
        rw [Bool.eq_iff_iff, beq_iff_eq, beq_iff_eq]; omega
      go_wp2
      go_ret3
      refine ⟨_, ?_, Kd.R_mono r1 (fun _ _ => trivial), hB⟩
      show _ = Ending.returned (.tuple #[_, .int .i64 s.deep, .bool (s.op.length == 0)])
      rw [← he]
      rfl
    | succ k1 =>
      have hil : i < l.length := by omega
      have hd : decide ((i : Int) < (l.length : Int)) = true := decide_eq_true (by omega)
      obtain ⟨ad, e, hx0, hx1⟩ := at_ins HR.out i hil
      subst e
      replace hx0 := (HS.bel.cell (World.block_lt_of_cell? w _ hx0)).trans hx0
      replace hx1 := (HS.bel.cell (World.block_lt_of_cell? w _ hx1)).trans hx1
      have HQ2 : Aside0 ((stepE i l[i].1 s).bind (runE (l.drop (i + 1)) (i + 1)) = R) := ⟨by have := HQ.out; rwa [List.drop_eq_getElem_cons hil] at this⟩
      have HV : Aside0 (∀ s', stepE i l[i].1 s = some s' → InvE l.length (i + 1) s') := ⟨fun s' hs => inv_step HI.out hs⟩
      clear HQ
      generalize l[i].1 = x at *
      generalize l[i].2 = y at *
      obtain ⟨out, op, els, ins, deep⟩ := s
      obtain ⟨e1, e2, e3, e4, e5, e6⟩ := HI.out
      clear HI
      simp only at e1 e2 e3 e4 e5 e6 HS
      have E6 := Aside0.mk e6
      clear e6
      by_cases c0 : op.length = 0
      · have hn : stepE i x ⟨out, op, els, ins, deep⟩ = none := by unfold stepE; rw [if_pos c0]
        have hq := HQ2.out
        rw [hn] at hq
        have hre := HRes.out
        rw [← hq] at hre
        simp only [Option.bind_none] at hre
        subst hre
        clear hq HQ2 HV hn
        obtain ⟨⟨tag, r1, r2, r3, r4⟩, hB⟩ := HS
        obtain ⟨A7, c7, rfl⟩ := Kd.R_slice r2
        have c0i : (op.length : Int) = 0 := by omega
        go_wp2
        go_ret3
        exact ⟨_, rfl, Kd.R_nil _ _ _ _ _, below_alloc hB _⟩
      · obtain ⟨-, ⟨gp, cp, f1, m1⟩, ⟨ge, ce, f2, m2⟩, ⟨gi, ci, f3, m3⟩⟩ := HS.forms (by omega) (by omega) (by omega)
        subst f1; subst f2; subst f3
        have HX := HS.alloc (.cells #[.int .i64 x, .int .i64 y] 86)
        have BX : (wr.alloc (.cells #[.int .i64 x, .int .i64 y] 86)).heap[wr.heap.size]? = some (.cells #[.int .i64 x, .int .i64 y] 86 (0, 0)) := by unfold World.alloc; exact Array.getElem?_push_size
        have BXA := Aside0.mk BX
        obtain ⟨d, hdd⟩ : ∃ d, op.length = d + 1 := ⟨op.length - 1, by omega⟩
        have en : (op.length : Int) - 1 = (d : Int) := by omega
        have ew : IntKind.i64.wrap ((op.length : Int) - 1) = (d : Int) := by rw [IntKind.wrap_i64]; omega
        have DD := Aside0.mk hdd
        have E1 := Aside0.mk e1
        have E2 := Aside0.mk e2
        have l0 : 0 < op.length := by omega
        have l1 : (d : Int) < (els.length : Int) := by omega
        have l2 : (d : Int) < (ins.length : Int) := by omega
        have l3 : (d : Int) < (op.length : Int) := by omega
        have n1 : els.length ≤ 1000 := by omega
        have n2 : ins.length ≤ 1000 := by omega
        have n3 : op.length ≤ 1000 := by omega
        have n4 : deep ≤ 1000 := by omega
        have E5 := Aside0.mk e5
        clear BX HS hdd e1 e2 e5
        by_cases c1 : x = 2 ∨ x = 3 ∨ x = 4
        · rcases c1 with rfl | rfl | rfl
          · by_cases cd : deep < op.length + 1
            · skip
              have hstep : stepE i 2 ⟨out, op, els, ins, deep⟩ = some ⟨out, op ++ [(i : Int)], els ++ [true], ins ++ [[(i : Int)]], op.length + 1⟩ := by unfold stepE; rw [if_neg c0, if_pos (by decide), if_pos cd]; rfl
              have hq := HQ2.out
              rw [hstep] at hq
              simp only [Option.bind_some] at hq
              have HQ3 := Aside0.mk hq
              have HV3 := Aside0.mk (HV.out _ hstep)
              clear hq HQ2 HV hstep
              go_wp2_with (first
                | (at_builtin; (fail_if_success (have _ := H1)); refine HX.app_open (i : Int) (by omega) rfl _ _ rfl rfl _ rfl (by simp) ?_; intro v1 u1 H1 K1; have Q1 := K1 _ _ BXA.out; have z1 : u1.cell? ⟨wr.heap.size, 0, none⟩ = some _ := (blk_cell Q1 0).trans rfl; obtain ⟨Ap, fp, ep⟩ := St.op_form H1; subst ep; rw [List.length_append] at H1)
                | (at_builtin; have _ := H1; (fail_if_success (have _ := H2)); refine H1.app_els _ (by omega) rfl _ _ rfl rfl _ rfl (by simp) ?_; intro v2 u2 H2 K2)
                | (at_builtin; have _ := H2; refine H2.app_ins (i : Int) (by omega) rfl _ _ rfl rfl _ _ rfl (by simp) rfl ?_; intro v3 u3 H3 K3))
              go_roundg k1
              case measure => omega
              case rel => exact ⟨i + 1, _, by omega, by rw [Int.natCast_add]; rfl, by rw [Int.natCast_add]; rfl, H3, HV3, HQ3⟩
            · skip
              have hstep : stepE i 2 ⟨out, op, els, ins, deep⟩ = some ⟨out, op ++ [(i : Int)], els ++ [true], ins ++ [[(i : Int)]], deep⟩ := by unfold stepE; rw [if_neg c0, if_pos (by decide), if_neg cd]; rfl
              have hq := HQ2.out
              rw [hstep] at hq
              simp only [Option.bind_some] at hq
              have HQ3 := Aside0.mk hq
              have HV3 := Aside0.mk (HV.out _ hstep)
              clear hq HQ2 HV hstep
              go_wp2_with (first
                | (at_builtin; (fail_if_success (have _ := H1)); refine HX.app_open (i : Int) (by omega) rfl _ _ rfl rfl _ rfl (by simp) ?_; intro v1 u1 H1 K1; have Q1 := K1 _ _ BXA.out; have z1 : u1.cell? ⟨wr.heap.size, 0, none⟩ = some _ := (blk_cell Q1 0).trans rfl; obtain ⟨Ap, fp, ep⟩ := St.op_form H1; subst ep; rw [List.length_append] at H1)
                | (at_builtin; have _ := H1; (fail_if_success (have _ := H2)); refine H1.app_els _ (by omega) rfl _ _ rfl rfl _ rfl (by simp) ?_; intro v2 u2 H2 K2)
                | (at_builtin; have _ := H2; refine H2.app_ins (i : Int) (by omega) rfl _ _ rfl rfl _ _ rfl (by simp) rfl ?_; intro v3 u3 H3 K3))
              go_roundg k1
              case measure => omega
              case rel => exact ⟨i + 1, _, by omega, rfl, by rw [Int.natCast_add]; rfl, H3, HV3, HQ3⟩
          · by_cases cd : deep < op.length + 1
            · skip
              have hstep : stepE i 3 ⟨out, op, els, ins, deep⟩ = some ⟨out, op ++ [(i : Int)], els ++ [true], ins ++ [[(i : Int)]], op.length + 1⟩ := by unfold stepE; rw [if_neg c0, if_pos (by decide), if_pos cd]; rfl
              have hq := HQ2.out
              rw [hstep] at hq
              simp only [Option.bind_some] at hq
              have HQ3 := Aside0.mk hq
              have HV3 := Aside0.mk (HV.out _ hstep)
              clear hq HQ2 HV hstep
              go_wp2_with (first
                | (at_builtin; (fail_if_success (have _ := H1)); refine HX.app_open (i : Int) (by omega) rfl _ _ rfl rfl _ rfl (by simp) ?_; intro v1 u1 H1 K1; have Q1 := K1 _ _ BXA.out; have z1 : u1.cell? ⟨wr.heap.size, 0, none⟩ = some _ := (blk_cell Q1 0).trans rfl; obtain ⟨Ap, fp, ep⟩ := St.op_form H1; subst ep; rw [List.length_append] at H1)
                | (at_builtin; have _ := H1; (fail_if_success (have _ := H2)); refine H1.app_els _ (by omega) rfl _ _ rfl rfl _ rfl (by simp) ?_; intro v2 u2 H2 K2)
                | (at_builtin; have _ := H2; refine H2.app_ins (i : Int) (by omega) rfl _ _ rfl rfl _ _ rfl (by simp) rfl ?_; intro v3 u3 H3 K3))
              go_roundg k1
              case measure => omega
              case rel => exact ⟨i + 1, _, by omega, by rw [Int.natCast_add]; rfl, by rw [Int.natCast_add]; rfl, H3, HV3, HQ3⟩
            · skip
              have hstep : stepE i 3 ⟨out, op, els, ins, deep⟩ = some ⟨out, op ++ [(i : Int)], els ++ [true], ins ++ [[(i : Int)]], deep⟩ := by unfold stepE; rw [if_neg c0, if_pos (by decide), if_neg cd]; rfl
              have hq := HQ2.out
              rw [hstep] at hq
              simp only [Option.bind_some] at hq
              have HQ3 := Aside0.mk hq
              have HV3 := Aside0.mk (HV.out _ hstep)
              clear hq HQ2 HV hstep
              go_wp2_with (first
                | (at_builtin; (fail_if_success (have _ := H1)); refine HX.app_open (i : Int) (by omega) rfl _ _ rfl rfl _ rfl (by simp) ?_; intro v1 u1 H1 K1; have Q1 := K1 _ _ BXA.out; have z1 : u1.cell? ⟨wr.heap.size, 0, none⟩ = some _ := (blk_cell Q1 0).trans rfl; obtain ⟨Ap, fp, ep⟩ := St.op_form H1; subst ep; rw [List.length_append] at H1)
                | (at_builtin; have _ := H1; (fail_if_success (have _ := H2)); refine H1.app_els _ (by omega) rfl _ _ rfl rfl _ rfl (by simp) ?_; intro v2 u2 H2 K2)
                | (at_builtin; have _ := H2; refine H2.app_ins (i : Int) (by omega) rfl _ _ rfl rfl _ _ rfl (by simp) rfl ?_; intro v3 u3 H3 K3))
              go_roundg k1
              case measure => omega
              case rel => exact ⟨i + 1, _, by omega, rfl, by rw [Int.natCast_add]; rfl, H3, HV3, HQ3⟩
          · by_cases cd : deep < op.length + 1
            · skip
              have hstep : stepE i 4 ⟨out, op, els, ins, deep⟩ = some ⟨out, op ++ [(i : Int)], els ++ [false], ins ++ [[(i : Int)]], op.length + 1⟩ := by unfold stepE; rw [if_neg c0, if_pos (by decide), if_pos cd]; rfl
              have hq := HQ2.out
              rw [hstep] at hq
              simp only [Option.bind_some] at hq
              have HQ3 := Aside0.mk hq
              have HV3 := Aside0.mk (HV.out _ hstep)
              clear hq HQ2 HV hstep
              go_wp2_with (first
                | (at_builtin; (fail_if_success (have _ := H1)); refine HX.app_open (i : Int) (by omega) rfl _ _ rfl rfl _ rfl (by simp) ?_; intro v1 u1 H1 K1; have Q1 := K1 _ _ BXA.out; have z1 : u1.cell? ⟨wr.heap.size, 0, none⟩ = some _ := (blk_cell Q1 0).trans rfl; obtain ⟨Ap, fp, ep⟩ := St.op_form H1; subst ep; rw [List.length_append] at H1)
                | (at_builtin; have _ := H1; (fail_if_success (have _ := H2)); refine H1.app_els _ (by omega) rfl _ _ rfl rfl _ rfl (by simp) ?_; intro v2 u2 H2 K2)
                | (at_builtin; have _ := H2; refine H2.app_ins (i : Int) (by omega) rfl _ _ rfl rfl _ _ rfl (by simp) rfl ?_; intro v3 u3 H3 K3))
              go_roundg k1
              case measure => omega
              case rel => exact ⟨i + 1, _, by omega, by rw [Int.natCast_add]; rfl, by rw [Int.natCast_add]; rfl, H3, HV3, HQ3⟩
            · skip
              have hstep : stepE i 4 ⟨out, op, els, ins, deep⟩ = some ⟨out, op ++ [(i : Int)], els ++ [false], ins ++ [[(i : Int)]], deep⟩ := by unfold stepE; rw [if_neg c0, if_pos (by decide), if_neg cd]; rfl
              have hq := HQ2.out
              rw [hstep] at hq
              simp only [Option.bind_some] at hq
              have HQ3 := Aside0.mk hq
              have HV3 := Aside0.mk (HV.out _ hstep)
              clear hq HQ2 HV hstep
              go_wp2_with (first
                | (at_builtin; (fail_if_success (have _ := H1)); refine HX.app_open (i : Int) (by omega) rfl _ _ rfl rfl _ rfl (by simp) ?_; intro v1 u1 H1 K1; have Q1 := K1 _ _ BXA.out; have z1 : u1.cell? ⟨wr.heap.size, 0, none⟩ = some _ := (blk_cell Q1 0).trans rfl; obtain ⟨Ap, fp, ep⟩ := St.op_form H1; subst ep; rw [List.length_append] at H1)
                | (at_builtin; have _ := H1; (fail_if_success (have _ := H2)); refine H1.app_els _ (by omega) rfl _ _ rfl rfl _ rfl (by simp) ?_; intro v2 u2 H2 K2)
                | (at_builtin; have _ := H2; refine H2.app_ins (i : Int) (by omega) rfl _ _ rfl rfl _ _ rfl (by simp) rfl ?_; intro v3 u3 H3 K3))
              go_roundg k1
              case measure => omega
              case rel => exact ⟨i + 1, _, by omega, rfl, by rw [Int.natCast_add]; rfl, H3, HV3, HQ3⟩
        · by_cases c5 : x = 5
          · subst c5
            obtain ⟨v0, v1⟩ := HX.els_cell d (by omega)
            have hed : els.getD (op.length - 1) false = els[d]'(by omega) := by rw [List.getD_eq_getElem?_getD, show op.length - 1 = d by have := DD.out; omega, List.getElem?_eq_getElem (by omega)]; rfl
            generalize hb : els[d]'(by omega) = b at *
            clear hb
            cases b with
            | true =>
              have hn : stepE i 5 ⟨out, op, els, ins, deep⟩ = none := by unfold stepE; rw [if_neg c0, if_neg (by decide), if_pos ⟨rfl, hed⟩]
              have hq := HQ2.out
              rw [hn] at hq
              have hre := HRes.out
              rw [← hq] at hre
              simp only [Option.bind_none] at hre
              subst hre
              clear hq HQ2 HV hn hed
              go_wp2
              go_ret3
              exact ⟨_, rfl, Kd.R_nil _ _ _ _ _, HX.bel⟩
            | false =>
              have hc5 : ¬ ((5 : Int) = 5 ∧ els.getD (op.length - 1) false = true) := by rw [hed]; simp
              clear hed
              obtain ⟨S5, K5⟩ := HX.set_els d true
              have Q5 := K5 _ _ BXA.out
              have z5 := (blk_cell Q5 0).trans (show (#[Value.int .i64 5, Value.int .i64 y] : Array Value)[0]? = some (.int .i64 5) from rfl)
              have hd2 : d < ins.length := by omega
              have hd3 : d < ins.length := hd2
              have hrl : ins[d].length ≤ 100000 := by have := (E6.out _ (List.getElem_mem hd2)).1; omega
              obtain ⟨Ai, mi, y1, y2, y3⟩ := S5.ins_cell d hd2
              have eg : ins.getD d [] = ins[d] := by rw [List.getD_eq_getElem?_getD, List.getElem?_eq_getElem hd2]; rfl
              have ed : op.length - 1 = d := by have := DD.out; omega
              have hstep : stepE i 5 ⟨out, op, els, ins, deep⟩ = some ⟨out, op, els.set d true, ins.set d (ins[d] ++ [(i : Int)]), deep⟩ := by
                unfold stepE
                rw [if_neg c0, if_neg (by decide), if_neg hc5]
                simp only [ed, eg]; rfl
              have hq := HQ2.out
              rw [hstep] at hq
              simp only [Option.bind_some] at hq
              have HQ3 := Aside0.mk hq
              have HV3 := Aside0.mk (HV.out _ hstep)
              clear hq HQ2 HV hstep eg ed y2 y3
              go_wp2_with (first
                | (at_builtin; (fail_if_success (have _ := HH)); refine S5.app_top d hd2 (i : Int) hrl _ y1 rfl _ _ rfl rfl _ rfl (by simp) ?_; intro v1 u1 HH K1; have Q1 := K1 _ _ Q5)
                | ((with_reducible refine gate_store (t := 52) (p := 88) rfl ?_); have _ := HH; refine HH.store hd3 rfl rfl _ _ rfl rfl rfl ?_; intro u2 H2 K2; have Q2 := K2 _ _ Q1; have z2 : u2.cell? ⟨wr.heap.size, 0, none⟩ = some _ := (blk_cell Q2 0).trans rfl; clear HH))
              go_roundg k1
              case measure => omega
              case rel => exact ⟨i + 1, _, by omega, rfl, by rw [Int.natCast_add]; rfl, H2, HV3, HQ3⟩
          · by_cases c11 : x = 11
            · subst c11
              have S5 := HX
              have Q5 := BXA.out
              have hd2 : d < ins.length := by omega
              have hd3 : d < ins.length := hd2
              have hrl : ins[d].length ≤ 100000 := by have := (E6.out _ (List.getElem_mem hd2)).1; omega
              obtain ⟨Ai, mi, y1, y2, y3⟩ := S5.ins_cell d hd2
              have eg : ins.getD d [] = ins[d] := by rw [List.getD_eq_getElem?_getD, List.getElem?_eq_getElem hd2]; rfl
              have ed : op.length - 1 = d := by have := DD.out; omega
              have hstep : stepE i 11 ⟨out, op, els, ins, deep⟩ = some ⟨setAll out (ins[d] ++ [(i : Int)]) i, op.take d, els.take d, (ins.set d (ins[d] ++ [(i : Int)])).take d, deep⟩ := by
                unfold stepE
                rw [if_neg c0, if_neg (by decide), if_neg (by rintro ⟨h, _⟩; exact absurd h (by decide))]
                simp only [ed, eg]; rfl
              have hq := HQ2.out
              rw [hstep] at hq
              simp only [Option.bind_some] at hq
              have HQ3 := Aside0.mk hq
              have HV3 := Aside0.mk (HV.out _ hstep)
              clear hq HQ2 HV hstep eg ed y2 y3
              go_wp2_with (first
                | (at_builtin; (fail_if_success (have _ := HH)); refine S5.app_top d hd2 (i : Int) hrl _ y1 rfl _ _ rfl rfl _ rfl (by simp) ?_; intro v1 u1 HH K1; obtain ⟨row, hro⟩ : ∃ r, r = ins[d] ++ [(i : Int)] := ⟨_, rfl⟩; rw [← hro] at HH; have HRO := Aside0.mk hro; clear hro; have Q1 := K1 _ _ Q5)
                | ((with_reducible refine gate_store (t := 52) (p := 88) rfl ?_); have _ := HH; refine HH.store hd3 rfl rfl _ _ rfl rfl rfl ?_; intro u2 H2 K2; have Q2 := K2 _ _ Q1; have z2 : u2.cell? ⟨wr.heap.size, 0, none⟩ = some _ := (blk_cell Q2 0).trans rfl; obtain ⟨Ar, mr, p1, p2, p3⟩ := H2.ins_cell d (by rw [List.length_set]; exact hd2); rw [List.getElem_set_self] at p1 p3; clear HH))
              have E7 : Aside0 (∀ k ∈ row, 0 ≤ k ∧ k < (l.length : Int)) := ⟨fun k hk => by
                rw [HRO.out, List.mem_append, List.mem_singleton] at hk
                rcases hk with hk | rfl
                · have := (E6.out _ (List.getElem_mem hd2)).2 k hk; omega
                · omega⟩
              have hrlen : row.length ≤ 1000 := by rw [HRO.out, List.length_append, List.length_singleton]; have := (E6.out _ (List.getElem_mem hd2)).1; omega
              have hrpos : 0 < row.length := by rw [HRO.out, List.length_append, List.length_singleton]; omega
              obtain ⟨ar, ea, _⟩ := p3.at_ 0 (by omega) (by omega)
              subst ea
              have H2' : St w u2 (.slice (some ⟨b0, 0, none⟩) l.length l.length) (.slice (some ⟨gp, 0, none⟩) op.length cp) (.slice (some ⟨ge, 0, none⟩) els.length ce) (.slice (some ⟨gi, 0, none⟩) ins.length ci) (setAll out (row.take 0) i) op els (ins.set d row) := H2
              rw [← HRO.out] at HV3 HQ3
              clear p2 p3 H2 K1 K2 Q1 Q2 z2 Q5 S5 HX BXA y1 HRO
              go_loopg [97] row.length (fun kq v97 w' => ∃ j : Nat, j + kq = row.length ∧ v97 = .int .i64 j ∧ St w w' (.slice (some ⟨b0, 0, none⟩) l.length l.length) (.slice (some ⟨gp, 0, none⟩) op.length cp) (.slice (some ⟨ge, 0, none⟩) els.length ce) (.slice (some ⟨gi, 0, none⟩) ins.length ci) (setAll out (row.take j) i) op els (ins.set d row) ∧ w'.cell? ⟨gi, d, none⟩ = some (.slice (some ar) row.length mr))
              case atStart => exact ⟨0, by omega, rfl, H2', p1⟩
              case round =>
                clear H2' p1
                obtain ⟨j, hj, rfl, H3, pc⟩ := hrel
                cases gk with
                | zero =>
                  obtain rfl : j = row.length := by omega
                  rw [List.take_length] at H3
                  have hd9 : decide ((row.length : Int) < (row.length : Int)) = false := decide_eq_false (by omega)
                  have r1 : (d : Int) ≤ (cp : Int) := by omega
                  have r2 : (d : Int) ≤ (ce : Int) := by omega
                  have r3 : (d : Int) ≤ (ci : Int) := by omega
                  have H4 := H3.takes (m := d) rfl rfl rfl (by omega) (by omega) (by rw [List.length_set]; omega)
                  go_wp2
                  go_roundg k1
                  case measure => omega
                  case rel => exact ⟨i + 1, _, by omega, rfl, by rw [Int.natCast_add]; rfl, H4, HV3, HQ3⟩
                | succ k2 =>
                  have hjl : j < row.length := by omega
                  have hd9 : decide ((j : Int) < (row.length : Int)) = true := decide_eq_true (by omega)
                  have hrd := H3.ins_reads d (by rw [List.length_set]; exact hd2) pc
                  rw [List.getElem_set_self] at hrd
                  obtain ⟨ar', ea, hx⟩ := hrd.at_ (j : Int) (by omega) (by omega)
                  injection ea with ea
                  subst ea
                  rw [Pl.rd_at row j hjl, Int.toNat_natCast] at hx
                  have hsn : setAll out (row.take (j + 1)) i = (setAll out (row.take j) i).set (row[j]).toNat i := by
                    unfold setAll; rw [List.take_succ_eq_append_getElem hjl, List.foldl_append]; rfl
                  have HSN := Aside0.mk hsn
                  have hk7 := E7.out _ (List.getElem_mem hjl)
                  clear hrd hsn
                  generalize row[j] = k at *
                  obtain ⟨kn, rfl⟩ : ∃ kn : Nat, k = kn := ⟨k.toNat, by omega⟩
                  rw [Int.toNat_natCast] at HSN
                  obtain ⟨v7, o1, o2⟩ : ∃ v, wr.cell? ⟨b0, kn, none⟩ = some v ∧ wr.frozen? ⟨b0, kn, none⟩ = false := ⟨_, H3.out_cell kn (by rw [setAll_len]; have := E5.out; omega)⟩
                  obtain ⟨H5, K5, C5⟩ := H3.set_out kn i
                  have pc5 := Aside0.mk ((C5 gi (by simp [Value.ownBlock]) d).trans pc)
                  have hk8 : (kn : Int) < (l.length : Int) := hk7.2
                  clear hk7 pc
                  go_wp2
                  go_roundg k2
                  case measure => omega
                  case rel => exact ⟨j + 1, by omega, by rw [Int.natCast_add]; rfl, by rw [HSN.out]; exact H5, pc5.out⟩
            · have S5 := HX
              have Q5 := BXA.out
              have hd2 : d < ins.length := by omega
              have hd3 : d < ins.length := hd2
              have hrl : ins[d].length ≤ 100000 := by have := (E6.out _ (List.getElem_mem hd2)).1; omega
              obtain ⟨Ai, mi, y1, y2, y3⟩ := S5.ins_cell d hd2
              have eg : ins.getD d [] = ins[d] := by rw [List.getD_eq_getElem?_getD, List.getElem?_eq_getElem hd2]; rfl
              have ed : op.length - 1 = d := by have := DD.out; omega
              have hstep : stepE i x ⟨out, op, els, ins, deep⟩ = some ⟨out, op, els, ins.set d (ins[d] ++ [(i : Int)]), deep⟩ := by
                unfold stepE
                rw [if_neg c0, if_neg c1, if_neg (by rintro ⟨h, _⟩; exact c5 h)]
                simp only [ed, eg, if_neg c5, if_neg c11]
              have hq := HQ2.out
              rw [hstep] at hq
              simp only [Option.bind_some] at hq
              have HQ3 := Aside0.mk hq
              have HV3 := Aside0.mk (HV.out _ hstep)
              clear hq HQ2 HV hstep eg ed y2 y3
              go_wp2_with (first
                | (at_builtin; (fail_if_success (have _ := HH)); refine S5.app_top d hd2 (i : Int) hrl _ y1 rfl _ _ rfl rfl _ rfl (by simp) ?_; intro v1 u1 HH K1; have Q1 := K1 _ _ Q5)
                | ((with_reducible refine gate_store (t := 52) (p := 88) rfl ?_); have _ := HH; refine HH.store hd3 rfl rfl _ _ rfl rfl rfl ?_; intro u2 H2 K2; have Q2 := K2 _ _ Q1; have z2 : u2.cell? ⟨wr.heap.size, 0, none⟩ = some _ := (blk_cell Q2 0).trans rfl; clear HH))
              go_roundg k1
              case measure => omega
              case rel => exact ⟨i + 1, _, by omega, rfl, by rw [Int.natCast_add]; rfl, H2, HV3, HQ3⟩

end Go.Proofs.Ytfncjcnlndoelaa.OwnEndsS
namespace Go.Proofs.Ytfncjcnlndoelaa.OwnDeep
open Go Go.RowKit Go.Proofs.YtfncjcnlndoelaaW.PrintWords Go.Proofs.YtfncjcnlndoelaaW.PrintLast Go.Proofs.YtfncjcnlndoelaaW.PrintMore Go.Proofs.Ytfncjcnlndoelaa.OwnBs Go.Proofs.Ytfncjcnlndoelaa.OwnKp Go.Proofs.Ytfncjcnlndoelaa.OwnCode Go.Proofs.Ytfncjcnlndoelaa.OwnSt
attribute [local go_sem] max2_int min2_int max_two min_two
set_option linter.unusedVariables false
set_option linter.unusedSimpArgs false
def opnB (x : Int) : Bool := decide (x = 2 ∨ x = 3 ∨ x = 4)
theorem opens_i (x : Int) (w : World) : Calls Try.prog 83 #[.int .i64 x] w fun e w' => e = .returned (.bool (opnB x)) ∧ ∃ n, w' = w.drewN n :=
  (Popens.impl_opens.calls x (opnB x) w (by
    unfold Popens.impl_opens.f opnB
    by_cases h1 : x = 2
    · rw [if_pos h1, decide_eq_true (.inl h1)]
    · rw [if_neg h1]
      by_cases h2 : x = 3
      · rw [if_pos h2, decide_eq_true (.inr (.inl h2))]
      · rw [if_neg h2]; simp only [Option.some.injEq]; show decide (x = 4) = _; rw [decide_eq_decide]; omega)).mono fun e w' h => ⟨h.1, h.2.out⟩
/-- The blocks around, and how many there were at most. -/
def stepD (x : Int) (s : List Int × Nat) : Option (List Int × Nat) :=
  if s.1.length = 0 then none
  else if x = 2 ∨ x = 3 ∨ x = 4 then some (s.1 ++ [x], if s.2 < s.1.length + 1 then s.1.length + 1 else s.2)
  else if x = 5 then (if s.1.getD (s.1.length - 1) 0 = 4 then some (s.1.set (s.1.length - 1) 5, s.2) else none)
  else if x = 11 then some (s.1.take (s.1.length - 1), s.2)
  else some s
def runD : List (Int × Int) → List Int × Nat → Option (List Int × Nat)
  | [], s => some s
  | x :: xs, s => (stepD x.1 s).bind (runD xs)
def resD : Option (List Int × Nat) → Nat
  | none => 0
  | some s => if 0 < s.1.length then 0 else s.2
def deepM (l : List (Int × Int)) : Nat := if goodC l = true then resD (runD l ([2], 1)) else 0
theorem stepD_bd {x : Int} {s s' : List Int × Nat} {i : Nat} (h : stepD x s = some s') (h1 : s.1.length ≤ i + 1) (h2 : s.2 ≤ i + 1) : s'.1.length ≤ i + 2 ∧ s'.2 ≤ i + 2 := by
  unfold stepD at h
  split at h
  · cases h
  · split at h
    · injection h with h; subst h; simp only [List.length_append, List.length_singleton]; refine ⟨by omega, ?_⟩; split <;> omega
    · split at h
      · split at h
        · injection h with h; subst h; simp only [List.length_set]; omega
        · cases h
      · split at h
        · injection h with h; subst h; simp only [List.length_take]; omega
        · injection h with h; subst h; omega
set_option maxRecDepth 100000 in
set_option maxHeartbeats 20000000 in
theorem deep_yes (A : Option Addr) (c : Nat) (l : List (Int × Int)) (w : World) (hr : Kd.C kI w A l.length l) (hc : l.length ≤ c) (g : goodC l = true) (R : Option (List Int × Nat)) (hRun : runD l ([2], 1) = R) (res : Nat) (hres : res = resD R) : Calls Try.prog 58 #[.slice A l.length c] w fun e w' => e = .returned (.int .i64 (res : Nat)) ∧ Below w.heap.size w w' := by
  have hl2 := goodC_len g
  have cg := fun w hr => good_i A c l w hr hc (by omega)
  have HR := Aside0.mk hr
  have HRun := Aside0.mk hRun
  have HRes := Aside0.mk hres
  rw [g] at cg
  clear hr g hRun hres
  go_enter Try.func58, Try.ntmps58
  go_wp2_with fail
  refine (cg _ HR.out).mono ?_
  rintro e w1 ⟨rfl, B1⟩
  clear cg
  have S0 := St.init1 B1 2
  go_wp2_with fail
  go_loopg [3, 4, 14] l.length (fun kq v3 v4 v14 w' => ∃ (i : Nat) (a : List Int) (m : Nat), i + kq = l.length ∧ v4 = .int .i64 m ∧ v14 = .int .i64 i ∧ St w w' (.slice none 0 0) v3 (.slice none 0 0) (.slice none 0 0) [] a [] [] ∧ Aside0 (a.length ≤ i + 1 ∧ m ≤ i + 1) ∧ Aside0 (runD (l.drop i) (a, m) = R))
  case atStart => exact ⟨0, [2], 1, by omega, rfl, rfl, S0, ⟨by simp, by simp⟩, HRun⟩
  case round =>
    clear S0 B1 HRun
    obtain ⟨i, a, m, hi, rfl, rfl, HS, HI, HQ⟩ := hrel
    cases gk with
    | zero =>
      obtain rfl : i = l.length := by omega
      have hq := HQ.out
      rw [List.drop_length] at hq
      have hre := HRes.out
      rw [← hq] at hre
      simp only [runD, resD] at hre
      have hd : decide ((l.length : Int) < (l.length : Int)) = false := decide_eq_false (by omega)
      obtain ⟨A3, c3, ef⟩ := HS.op_form
      subst ef
      clear hq HQ HRes HI
      by_cases hp : 0 < a.length
      · rw [if_pos hp] at hre
        subst hre
        go_wp2
        go_ret
        exact ⟨rfl, HS.bel⟩
      · rw [if_neg hp] at hre
        subst hre
        have hp0 : a.length ≤ 0 := by omega
        go_wp2
        go_ret
        exact ⟨rfl, HS.bel⟩
    | succ k1 =>
      have hil : i < l.length := by omega
      have hd : decide ((i : Int) < (l.length : Int)) = true := decide_eq_true (by omega)
      obtain ⟨ad, e, hx0, hx1⟩ := at_ins HR.out i hil
      subst e
      replace hx0 := (HS.bel.cell (World.block_lt_of_cell? w _ hx0)).trans hx0
      replace hx1 := (HS.bel.cell (World.block_lt_of_cell? w _ hx1)).trans hx1
      have HQ2 : Aside0 ((stepD l[i].1 (a, m)).bind (runD (l.drop (i + 1))) = R) := ⟨by have := HQ.out; rwa [List.drop_eq_getElem_cons hil] at this⟩
      have HV : Aside0 (∀ s', stepD l[i].1 (a, m) = some s' → s'.1.length ≤ i + 2 ∧ s'.2 ≤ i + 2) := ⟨fun s' hs => stepD_bd hs HI.out.1 HI.out.2⟩
      clear HQ
      generalize l[i].1 = x at *
      generalize l[i].2 = y at *
      obtain ⟨b1, b2⟩ := HI.out
      clear HI
      by_cases c0 : a.length = 0
      · have hn : stepD x (a, m) = none := by unfold stepD; rw [if_pos c0]
        have hq := HQ2.out
        rw [hn] at hq
        have hre := HRes.out
        rw [← hq] at hre
        simp only [Option.bind_none, resD] at hre
        subst hre
        obtain ⟨A3, c3, ef⟩ := HS.op_form
        subst ef
        have c0i : (a.length : Int) = 0 := by omega
        clear hq HQ2 HV hn c0
        go_wp2
        go_ret
        exact ⟨rfl, below_alloc HS.bel _⟩
      · obtain ⟨gp, cp, f1, m1⟩ := HS.op_pos (by omega)
        subst f1
        have HX := HS.alloc (.cells #[.int .i64 x, .int .i64 y] 86)
        obtain ⟨d, hdd⟩ : ∃ d, a.length = d + 1 := ⟨a.length - 1, by omega⟩
        have en : (a.length : Int) - 1 = (d : Int) := by omega
        have ew : IntKind.i64.wrap ((a.length : Int) - 1) = (d : Int) := by rw [IntKind.wrap_i64]; omega
        have hd2 : d < a.length := by omega
        have hd3 : (d : Int) < (a.length : Int) := by omega
        have ed : Aside0 (a.length - 1 = d) := ⟨by omega⟩
        have l0 : 0 < a.length := by omega
        have n1 : a.length ≤ 1000 := by omega
        have n2 : m ≤ 1000 := by omega
        have co := fun w => opens_i x w
        clear HS hdd
        by_cases c1 : x = 2 ∨ x = 3 ∨ x = 4
        · have ho : opnB x = true := by unfold opnB; rw [decide_eq_true c1]
          rw [ho] at co
          clear ho
          by_cases cd : m < a.length + 1
          · skip
            have hstep : stepD x (a, m) = some (a ++ [x], a.length + 1) := by
              unfold stepD
              simp only [if_neg c0, if_pos c1, if_pos cd]
            have hq := HQ2.out
            rw [hstep] at hq
            simp only [Option.bind_some] at hq
            have HQ3 := Aside0.mk hq
            have HV3 := Aside0.mk (HV.out _ hstep)
            clear hq HQ2 HV hstep
            have HY := fun n => (HX.below (pw_below_drewN (Below.refl _ _) n))
            go_wp2_with (first | (go_at_call 83; (with_reducible refine (co _).mono ?_); rintro e w2 ⟨rfl, n, rfl⟩) | (at_builtin; refine (HY n).app_open x (by omega) rfl _ _ rfl rfl _ rfl (by simp) ?_; intro v1 u1 H1 K1; obtain ⟨Ap, fp, ep⟩ := St.op_form H1; subst ep; rw [List.length_append] at H1))
            go_roundg k1
            case measure => omega
            case rel => exact ⟨i + 1, _, _, by omega, by rw [Int.natCast_add]; rfl, by rw [Int.natCast_add]; rfl, H1, HV3, HQ3⟩
          · skip
            have hstep : stepD x (a, m) = some (a ++ [x], m) := by
              unfold stepD
              simp only [if_neg c0, if_pos c1, if_neg cd]
            have hq := HQ2.out
            rw [hstep] at hq
            simp only [Option.bind_some] at hq
            have HQ3 := Aside0.mk hq
            have HV3 := Aside0.mk (HV.out _ hstep)
            clear hq HQ2 HV hstep
            have HY := fun n => (HX.below (pw_below_drewN (Below.refl _ _) n))
            go_wp2_with (first | (go_at_call 83; (with_reducible refine (co _).mono ?_); rintro e w2 ⟨rfl, n, rfl⟩) | (at_builtin; refine (HY n).app_open x (by omega) rfl _ _ rfl rfl _ rfl (by simp) ?_; intro v1 u1 H1 K1; obtain ⟨Ap, fp, ep⟩ := St.op_form H1; subst ep; rw [List.length_append] at H1))
            go_roundg k1
            case measure => omega
            case rel => exact ⟨i + 1, _, _, by omega, rfl, by rw [Int.natCast_add]; rfl, H1, HV3, HQ3⟩
        · have ho : opnB x = false := by unfold opnB; rw [decide_eq_false c1]
          rw [ho] at co
          clear ho
          by_cases c5 : x = 5
          · subst c5
            obtain ⟨v0, v1⟩ := HX.op_cell d hd2
            have hed : a.getD d 0 = a[d] := by rw [List.getD_eq_getElem?_getD, List.getElem?_eq_getElem hd2]; rfl
            generalize hb : a[d] = b at *
            clear hb
            by_cases hb4 : b = 4
            · subst hb4
              have hstep : stepD 5 (a, m) = some (a.set d 5, m) := by
                unfold stepD
                simp only [if_neg c0, if_neg c1, if_true, ed.out, hed]
              have hq := HQ2.out
              rw [hstep] at hq
              simp only [Option.bind_some] at hq
              have HQ3 := Aside0.mk hq
              have HV3 := Aside0.mk (HV.out _ hstep)
              clear hq HQ2 HV hstep
              clear hed
              have H1 := HX.set_op d 5
              have H2 := fun n => H1.below (pw_below_drewN (Below.refl _ _) n)
              go_wp2_with (go_at_call 83; (with_reducible refine (co _).mono ?_); rintro e w2 ⟨rfl, n, rfl⟩)
              go_roundg k1
              case measure => omega
              case rel => exact ⟨i + 1, _, _, by omega, rfl, by rw [Int.natCast_add]; rfl, H2 n, HV3, HQ3⟩
            · have hn : stepD 5 (a, m) = none := by unfold stepD; simp only [if_neg c0, if_neg c1, if_true, ed.out, hed, if_neg hb4]
              have hq := HQ2.out
              rw [hn] at hq
              have hre := HRes.out
              rw [← hq] at hre
              simp only [Option.bind_none, resD] at hre
              subst hre
              have hb5 : (b != 4) = true := bne_iff_ne.2 hb4
              clear hq HQ2 HV hn hed
              go_wp2_with (go_at_call 83; (with_reducible refine (co _).mono ?_); rintro e w2 ⟨rfl, n, rfl⟩)
              go_ret
              exact ⟨rfl, pw_below_drewN HX.bel _⟩
          · by_cases c11 : x = 11
            · subst c11
              have hstep : stepD 11 (a, m) = some (a.take d, m) := by
                unfold stepD
                simp only [if_neg c0, if_neg c1, if_neg c5, if_true, ed.out]
              have hq := HQ2.out
              rw [hstep] at hq
              simp only [Option.bind_some] at hq
              have HQ3 := Aside0.mk hq
              have HV3 := Aside0.mk (HV.out _ hstep)
              clear hq HQ2 HV hstep
              have r1 : (d : Int) ≤ (cp : Int) := by omega
              have H2 := fun n => (HX.take_op (m := d) (by omega)).below (pw_below_drewN (Below.refl _ _) n)
              go_wp2_with (go_at_call 83; (with_reducible refine (co _).mono ?_); rintro e w2 ⟨rfl, n, rfl⟩)
              go_roundg k1
              case measure => omega
              case rel => exact ⟨i + 1, _, _, by omega, rfl, by rw [Int.natCast_add]; rfl, H2 n, HV3, HQ3⟩
            · skip
              have hstep : stepD x (a, m) = some (a, m) := by
                unfold stepD
                simp only [if_neg c0, if_neg c1, if_neg c5, if_neg c11]
              have hq := HQ2.out
              rw [hstep] at hq
              simp only [Option.bind_some] at hq
              have HQ3 := Aside0.mk hq
              have HV3 := Aside0.mk (HV.out _ hstep)
              clear hq HQ2 HV hstep
              have H2 := fun n => HX.below (pw_below_drewN (Below.refl _ _) n)
              go_wp2_with (go_at_call 83; (with_reducible refine (co _).mono ?_); rintro e w2 ⟨rfl, n, rfl⟩)
              go_roundg k1
              case measure => omega
              case rel => exact ⟨i + 1, _, _, by omega, rfl, by rw [Int.natCast_add]; rfl, H2 n, HV3, HQ3⟩
theorem deep_i (A : Option Addr) (c : Nat) (l : List (Int × Int)) (w : World) (hr : Kd.C kI w A l.length l) (hc : l.length ≤ c) (hl : l.length ≤ 1048576) : Calls Try.prog 58 #[.slice A l.length c] w fun e w' => e = .returned (.int .i64 (deepM l : Nat)) ∧ Below w.heap.size w w' := by
  by_cases g : goodC l = true
  · have e : deepM l = resD (runD l ([2], 1)) := by unfold deepM; rw [if_pos g]
    rw [e]
    exact deep_yes A c l w hr hc g _ rfl _ rfl
  · have e : deepM l = 0 := by unfold deepM; rw [if_neg g]
    rw [e]
    have cg := fun w hr => good_i A c l w hr hc hl
    rw [Bool.eq_false_iff.2 g] at cg
    have HR := Aside0.mk hr
    clear g hr e
    go_enter Try.func58, Try.ntmps58
    go_wp2_with fail
    refine (cg _ HR.out).mono ?_
    rintro e w1 ⟨rfl, B1⟩
    go_wp2_with fail
    go_ret
    exact ⟨rfl, B1⟩

end Go.Proofs.Ytfncjcnlndoelaa.OwnDeep
namespace Go.Proofs.Ytfncjcnlndoelaa.OwnDeepEq
open Go Go.RowKit Go.Proofs.YtfncjcnlndoelaaW.PrintWords Go.Proofs.YtfncjcnlndoelaaW.PrintLast Go.Proofs.YtfncjcnlndoelaaW.PrintMore Go.Proofs.Ytfncjcnlndoelaa.OwnBs Go.Proofs.Ytfncjcnlndoelaa.OwnKp Go.Proofs.Ytfncjcnlndoelaa.OwnCode Go.Proofs.Ytfncjcnlndoelaa.OwnSt Go.Proofs.Ytfncjcnlndoelaa.OwnEndsS Go.Proofs.Ytfncjcnlndoelaa.OwnDeep
set_option linter.unusedVariables false
set_option linter.unusedSimpArgs false
def RelE (s : EndSt) (a : List Int) (m : Nat) : Prop := s.els = a.map (fun k => k != 4) ∧ s.op.length = a.length ∧ s.deep = m ∧ 1 ≤ m
def BothE : Option EndSt → Option (List Int × Nat) → Prop
  | none, none => True
  | some s, some r => RelE s r.1 r.2
  | _, _ => False
theorem getD_map_ne (a : List Int) (d : Nat) (h : d < a.length) : (a.map (fun k => k != 4)).getD d false = (a.getD d 0 != 4) := by
  simp [List.getD_eq_getElem?_getD, List.getElem?_eq_getElem h]
theorem step_both (i : Nat) (x : Int) (s : EndSt) (a : List Int) (m : Nat) (h : RelE s a m) : BothE (stepE i x s) (stepD x (a, m)) := by
  obtain ⟨h1, h2, h3, h4⟩ := h
  unfold stepE stepD
  by_cases c0 : a.length = 0
  · rw [if_pos (by omega), if_pos c0]; trivial
  · rw [if_neg (by omega), if_neg c0]
    by_cases c1 : x = 2 ∨ x = 3 ∨ x = 4
    · rw [if_pos c1, if_pos c1]
      refine ⟨?_, by simp [h2], ?_, ?_⟩
      · show s.els ++ [x != 4] = (a ++ [x]).map _
        rw [List.map_append, h1]; rfl
      · show (if _ then _ else _) = (if _ then _ else _)
        rw [h2, h3]
      · show 1 ≤ (if m < a.length + 1 then a.length + 1 else m)
        split <;> omega
    · rw [if_neg c1, if_neg c1]
      have hg : s.els.getD (s.op.length - 1) false = (a.getD (a.length - 1) 0 != 4) := by rw [h1, h2]; exact getD_map_ne a _ (by omega)
      by_cases c5 : x = 5
      · subst c5
        rw [if_pos rfl]
        by_cases h4 : a.getD (a.length - 1) 0 = 4
        · rw [if_neg (by rw [hg, h4]; decide), if_pos h4]
          simp only [if_true, show ((5 : Int) = 11) = False by decide, if_false]
          refine ⟨?_, by simp [h2], h3, by assumption⟩
          show s.els.set _ true = (a.set _ 5).map _
          rw [List.map_set, h1, h2]; rfl
        · rw [if_pos ⟨rfl, by rw [hg]; simpa using h4⟩, if_neg h4]; trivial
      · rw [if_neg (fun h => c5 h.1), if_neg c5]
        by_cases c11 : x = 11
        · simp only [if_neg c5, if_pos c11]
          refine ⟨?_, ?_, h3, h4⟩
          · show s.els.take _ = (a.take _).map _
            rw [List.map_take, h1, h2]
          · show (s.op.take _).length = (a.take _).length
            rw [List.length_take, List.length_take, h2]
        · simp only [if_neg c5, if_neg c11]
          exact ⟨h1, h2, h3, h4⟩
theorem run_both : ∀ (l : List (Int × Int)) (i : Nat) (s : EndSt) (a : List Int) (m : Nat), RelE s a m → BothE (runE l i s) (runD l (a, m))
  | [], i, s, a, m, h => h
  | x :: xs, i, s, a, m, h => by
    have hb := step_both i x.1 s a m h
    unfold runE runD
    cases hE : stepE i x.1 s with
    | none =>
      cases hD : stepD x.1 (a, m) with
      | none => trivial
      | some r => rw [hE, hD] at hb; exact hb.elim
    | some s' =>
      cases hD : stepD x.1 (a, m) with
      | none => rw [hE, hD] at hb; exact hb.elim
      | some r =>
        rw [hE, hD] at hb
        exact run_both xs (i + 1) s' r.1 r.2 hb
/-- What the program tells is what the reference tells. -/
theorem deep_ends (l : List (Int × Int)) : deepM l = (if (endsM l).2.2 = true then (endsM l).2.1 else 0) ∧ ((endsM l).2.2 = true → 1 ≤ (endsM l).2.1) := by
  unfold deepM
  by_cases g : goodC l = true
  · rw [if_pos g]
    by_cases e : l = []
    · have e1 : endsM l = ([], 0, false) := by unfold endsM; exact if_neg (fun h => h.2 e)
      rw [e1]
      subst e
      exact ⟨rfl, fun h => by cases h⟩
    · have e1 : endsM l = resE (runE l 0 (iniE l.length)) := by unfold endsM; exact if_pos ⟨g, e⟩
      rw [e1]
      have hb := run_both l 0 (iniE l.length) [2] 1 ⟨rfl, rfl, rfl, Nat.le_refl _⟩
      cases hE : runE l 0 (iniE l.length) with
      | none =>
        cases hD : runD l ([2], 1) with
        | none => exact ⟨rfl, fun h => by cases h⟩
        | some r => rw [hE, hD] at hb; exact hb.elim
      | some s =>
        cases hD : runD l ([2], 1) with
        | none => rw [hE, hD] at hb; exact hb.elim
        | some r =>
          rw [hE, hD] at hb
          obtain ⟨_, h2, h3, h4⟩ := hb
          by_cases hp : 0 < r.1.length
          · have : (s.op.length == 0) = false := beq_eq_false_iff_ne.2 (by omega)
            have e2 : resE (some s) = (s.out, s.deep, false) := by show (s.out, s.deep, s.op.length == 0) = _; rw [this]
            have e3 : resD (some r) = 0 := if_pos hp
            rw [e2, e3]
            exact ⟨rfl, fun h => by cases h⟩
          · have : (s.op.length == 0) = true := beq_iff_eq.2 (by omega)
            have e2 : resE (some s) = (s.out, s.deep, true) := by show (s.out, s.deep, s.op.length == 0) = _; rw [this]
            have e3 : resD (some r) = r.2 := if_neg hp
            rw [e2, e3, if_pos rfl, ← h3]
            exact ⟨rfl, fun _ => by rw [h3]; exact h4⟩
  · have e1 : endsM l = ([], 0, false) := by unfold endsM; exact if_neg (fun h => g h.1)
    rw [if_neg g, e1]
    exact ⟨rfl, fun h => by cases h⟩
theorem ends_s (A : Option Addr) (c : Nat) (l : List (Int × Int)) (w : World) (hr : Kd.C kI w A l.length l) (hc : l.length ≤ c) (hl : l.length ≤ 1048576) : Calls Try.prog 56 #[.slice A l.length c] w (EndsPost w (endsM l)) := by
  by_cases g : goodC l = true ∧ l ≠ []
  · have e : endsM l = resE (runE l 0 (iniE l.length)) := by unfold endsM; rw [if_pos g]
    rw [e]
    exact ends_yes A c l w hr hc g.1 g.2 _ rfl _ rfl
  · have e : endsM l = ([], 0, false) := by unfold endsM; rw [if_neg g]
    rw [e]
    refine ends_no A c l w hr hc hl ?_
    by_cases h : goodC l = true
    · exact .inr (Classical.byContradiction fun h2 => g ⟨h, h2⟩)
    · exact .inl (Bool.eq_false_iff.2 h)
end Go.Proofs.Ytfncjcnlndoelaa.OwnDeepEq
namespace Go.Proofs.Ytfncjcnlndoelaa.OwnEndsI
open Go Go.RowKit Go.Proofs.YtfncjcnlndoelaaW.PrintWords Go.Proofs.YtfncjcnlndoelaaW.PrintLast Go.Proofs.YtfncjcnlndoelaaW.PrintMore Go.Proofs.Ytfncjcnlndoelaa.OwnBs Go.Proofs.Ytfncjcnlndoelaa.OwnKp Go.Proofs.Ytfncjcnlndoelaa.OwnCode Go.Proofs.Ytfncjcnlndoelaa.OwnSt Go.Proofs.Ytfncjcnlndoelaa.OwnEndsS Go.Proofs.Ytfncjcnlndoelaa.OwnDeep
set_option linter.unusedVariables false
set_option linter.unusedSimpArgs false
/-- The ends that are to come behind place i's front (the outermost first). -/
def bkI : List (Int × Int) → Nat → List Int
  | [], _ => []
  | x :: xs, i =>
    let s := if x.1 = 11 then bkI xs (i + 1) ++ [(i : Int)] else bkI xs (i + 1)
    if opnB x.1 = true then s.take (s.length - 1) else s
/-- Each place's end. -/
def enI : List (Int × Int) → Nat → List Int
  | [], _ => []
  | x :: xs, i => (if x.1 = 11 then (i : Int) else (bkI xs (i + 1)).getD ((bkI xs (i + 1)).length - 1) 0) :: enI xs (i + 1)
/-- No place lacks its end. -/
def okI : List (Int × Int) → Nat → Bool
  | [], _ => true
  | x :: xs, i => (decide (x.1 = 11) || decide (bkI xs (i + 1) ≠ [])) && okI xs (i + 1)
theorem bkI_len : ∀ (l : List (Int × Int)) (i : Nat), (bkI l i).length ≤ l.length
  | [], _ => Nat.le_refl _
  | x :: xs, i => by
    have := bkI_len xs (i + 1)
    unfold bkI
    simp only []
    split <;> split <;> simp <;> omega
theorem enI_len : ∀ (l : List (Int × Int)) (i : Nat), (enI l i).length = l.length
  | [], _ => rfl
  | x :: xs, i => by unfold enI; rw [List.length_cons, enI_len xs (i + 1), List.length_cons]
theorem okI_at : ∀ (l : List (Int × Int)) (i : Nat), okI l i = true → ∀ (j : Nat) (h : j < l.length), l[j].1 = 11 ∨ bkI (l.drop (j + 1)) (i + j + 1) ≠ []
  | [], _, _, j, h => by simp at h
  | x :: xs, i, hk, j, h => by
    unfold okI at hk
    rw [Bool.and_eq_true, Bool.or_eq_true, decide_eq_true_eq, decide_eq_true_eq] at hk
    cases j with
    | zero => exact hk.1
    | succ j =>
      have := okI_at xs (i + 1) hk.2 j (by simpa using h)
      rw [show i + 1 + j + 1 = i + (j + 1) + 1 by omega] at this
      exact this
theorem rep_set (k : Nat) (E : List Int) (v : Int) : (List.replicate (k + 1) 0 ++ E).set k v = List.replicate k 0 ++ v :: E := by
  rw [List.replicate_succ', List.append_assoc, List.set_append_right _ _ (by simp)]
  simp
set_option maxRecDepth 100000 in
set_option maxHeartbeats 20000000 in
theorem ends_i (A : Option Addr) (c : Nat) (l : List (Int × Int)) (w : World) (hr : Kd.C kI w A l.length l) (hc : l.length ≤ c) (hl : l.length ≤ 200) (hok : okI l 0 = true) : Calls Try.prog 67 #[.slice A l.length c] w fun e w' => ∃ A' c', e = .returned (.slice A' l.length c') ∧ Kd.R dI 3 w' w.heap.size (fun _ => True) (.slice A' l.length c') (enI l 0) ∧ Below w.heap.size w w' := by
  have HR := Aside0.mk hr
  have HK := Aside0.mk (okI_at l 0 hok)
  clear hr hok
  have hmk := print_make (P := Try.prog) 52 3 .i64 8 Try.underlying52 info_int (by decide) l.length (by omega)
  have S0 := St.init2 (Below.refl w.heap.size w) l.length (by omega)
  have ew0 : IntKind.i64.wrap ((l.length : Int) - 1) = (l.length : Int) - 1 := by rw [IntKind.wrap_i64]; omega
  have HL0 : Aside0 ((bkI (l.drop l.length) l.length).length ≤ l.length - l.length) := ⟨by rw [List.drop_length]; exact Nat.zero_le _⟩
  have HS0 : Aside0 (St w ((w.alloc (.cells (madeCells #[.int .i64 0] l.length) 3)).alloc (.cells #[] 3)) (.slice (some ⟨w.heap.size, 0, none⟩) l.length l.length) (.slice (some ⟨w.heap.size + 1, 0, none⟩) 0 0) (.slice none 0 0) (.slice none 0 0) (List.replicate l.length 0 ++ enI (l.drop l.length) l.length) (bkI (l.drop l.length) l.length) [] []) := ⟨by rw [List.drop_length]; simpa [enI, bkI] using S0⟩
  clear S0
  go_enter Try.func67, Try.ntmps67
  go_wp2
  go_loopg [4, 5] l.length (fun kq v4 v5 w' => ∃ d : Int, d = (kq : Int) - 1 ∧ v5 = .int .i64 d ∧ Aside0 (kq ≤ l.length) ∧ St w w' (.slice (some ⟨w.heap.size, 0, none⟩) l.length l.length) v4 (.slice none 0 0) (.slice none 0 0) (List.replicate kq 0 ++ enI (l.drop kq) kq) (bkI (l.drop kq) kq) [] [] ∧ Aside0 ((bkI (l.drop kq) kq).length ≤ l.length - kq))
  case atStart => exact ⟨_, rfl, rfl, ⟨Nat.le_refl _⟩, HS0.out, HL0⟩
  case round =>
    clear HS0 HL0 hmk ew0
    obtain ⟨d, hdv, rfl, HQ, HS, HN⟩ := hrel
    cases gk with
    | zero =>
      have hd : decide ((0 : Int) ≤ d) = false := decide_eq_false (by omega)
      rw [List.drop_zero] at HS
      obtain ⟨A4, c4, e4⟩ := HS.op_form
      subst e4
      go_wp2
      go_ret
      obtain ⟨⟨tag, r1, _⟩, hB⟩ := HS
      refine ⟨_, _, rfl, Kd.R_mono r1 (fun _ _ => trivial), hB⟩
    | succ k1 =>
      obtain rfl : d = (k1 : Int) := by omega
      clear hdv
      have hil : k1 < l.length := by have := HQ.out; omega
      obtain ⟨ad, e, hx0, hx1⟩ := at_ins HR.out k1 hil
      subst e
      have hblk := World.block_lt_of_cell? w _ hx0
      have HX0 := Aside0.mk hx0
      have HBK := Aside0.mk hblk
      replace hx0 := (HS.bel.cell hblk).trans hx0
      clear hblk
      have hok := HK.out k1 hil
      rw [Nat.zero_add] at hok
      have EB : Aside0 (bkI (l.drop k1) k1 = if opnB l[k1].1 = true then (if l[k1].1 = 11 then bkI (l.drop (k1 + 1)) (k1 + 1) ++ [(k1 : Int)] else bkI (l.drop (k1 + 1)) (k1 + 1)).take ((if l[k1].1 = 11 then bkI (l.drop (k1 + 1)) (k1 + 1) ++ [(k1 : Int)] else bkI (l.drop (k1 + 1)) (k1 + 1)).length - 1) else (if l[k1].1 = 11 then bkI (l.drop (k1 + 1)) (k1 + 1) ++ [(k1 : Int)] else bkI (l.drop (k1 + 1)) (k1 + 1))) := ⟨by rw [List.drop_eq_getElem_cons hil]; rfl⟩
      have EE : Aside0 (enI (l.drop k1) k1 = (if l[k1].1 = 11 then (k1 : Int) else (bkI (l.drop (k1 + 1)) (k1 + 1)).getD ((bkI (l.drop (k1 + 1)) (k1 + 1)).length - 1) 0) :: enI (l.drop (k1 + 1)) (k1 + 1)) := ⟨by rw [List.drop_eq_getElem_cons hil]; rfl⟩
      have HLn : Aside0 ((bkI (l.drop k1) k1).length ≤ l.length - k1) := ⟨by have := bkI_len (l.drop k1) k1; rwa [List.length_drop] at this⟩
      have hen : (enI (l.drop (k1 + 1)) (k1 + 1)).length = l.length - (k1 + 1) := by rw [enI_len, List.length_drop]
      have hn := HN.out
      clear HN hx1
      have q1 : (0 : Int) ≤ (k1 : Int) := by omega
      have q2 : (k1 : Int) < (l.length : Int) := by omega
      have hd : decide ((0 : Int) ≤ (k1 : Int)) = true := decide_eq_true q1
      have ewk : IntKind.i64.wrap ((k1 : Int) - 1) = (k1 : Int) - 1 := by rw [IntKind.wrap_i64]; omega
      generalize l[k1].1 = x at *
      generalize hgs : bkI (l.drop (k1 + 1)) (k1 + 1) = s at *
      generalize hge : enI (l.drop (k1 + 1)) (k1 + 1) = E at *
      clear hgs hge
      have co := fun w => opens_i x w
      have hout : k1 < (List.replicate (k1 + 1) (0 : Int) ++ E).length := by simp; omega
      by_cases h11 : x = 11
      · subst h11
        have ho : opnB 11 = false := by decide
        rw [ho] at co
        have EB2 : Aside0 (bkI (l.drop k1) k1 = s ++ [(k1 : Int)]) := ⟨by rw [EB.out, ho]; simp⟩
        have EE2 : Aside0 (enI (l.drop k1) k1 = (k1 : Int) :: E) := ⟨by rw [EE.out]; simp⟩
        clear EB EE ho hok
        have hlen : (s ++ [(k1 : Int)]).length = s.length + 1 := by simp
        have ew : IntKind.i64.wrap (((s.length : Int) + 1) - 1) = (s.length : Int) := by rw [IntKind.wrap_i64]; omega
        have ew2 : ((s.length : Int) + 1) - 1 = (s.length : Int) := by omega
        have g1 : (s.length : Int) < (s.length : Int) + 1 := by omega
        have g2 : s.length < s.length + 1 := by omega
        have g0 : (0 : Int) ≤ (s.length : Int) := by omega
        obtain ⟨A4, c4, e4⟩ := HS.op_form
        subst e4
        go_wp2_with (first
          | (go_at_call 83; (with_reducible refine (co _).mono ?_); rintro e w3 ⟨rfl, n, rfl⟩)
          | (at_builtin; refine HS.app_open (k1 : Int) (by omega) rfl _ _ rfl rfl _ rfl (by simp) ?_; intro v1 u1 H1 K1; obtain ⟨g, f, ep, m1⟩ := St.op_pos H1 (by simp); subst ep; have hx8 : u1.cell? (ad.add (k1 * 2)) = some (.int .i64 11) := ((H1.bel.cell HBK.out).trans HX0.out); have HO := H1.op_cell s.length (by simp); have HP := H1.out_cell k1 hout; have H2 := H1.set_out k1 (k1 : Int); have hx9 : (u1.setCell ⟨w.heap.size, k1, none⟩ (.int .i64 (k1 : Int))).cell? (ad.add (k1 * 2)) = some (.int .i64 11) := ((H2.1.bel.cell HBK.out).trans HX0.out); obtain ⟨o1, o2⟩ := HO; obtain ⟨p1, p2⟩ := HP; rw [List.getElem_append_right (Nat.le_refl _)] at o1; simp only [Nat.sub_self, List.getElem_cons_zero] at o1; have H3 := Aside0.mk H2.1; clear H2 H1 K1; rw [hlen] at m1 ⊢))
        go_roundg k1
        case measure => omega
        case rel => exact ⟨(k1 : Int) - 1, rfl, rfl, ⟨by omega⟩, by rw [EB2.out, EE2.out]; have h4 := H3.out; rw [rep_set, hlen] at h4; exact h4.below (pw_below_drewN (Below.refl _ _) _), HLn⟩
      · have hs0 : s ≠ [] := by
          rcases hok with h | h
          · exact absurd h h11
          · exact h
        have hsp : 0 < s.length := List.length_pos_iff.2 hs0
        obtain ⟨d2, hd2⟩ : ∃ d2, s.length = d2 + 1 := ⟨s.length - 1, by omega⟩
        have hdl : d2 < s.length := by omega
        obtain ⟨g, f, e4, m1⟩ := HS.op_pos hsp
        subst e4
        obtain ⟨o1, o2⟩ := HS.op_cell d2 hdl
        obtain ⟨p1, p2⟩ := HS.out_cell k1 hout
        have hget : s.getD (s.length - 1) 0 = s[d2] := by rw [show s.length - 1 = d2 by omega, List.getD_eq_getElem?_getD, List.getElem?_eq_getElem hdl]; rfl
        have EE2 : Aside0 (enI (l.drop k1) k1 = s[d2] :: E) := ⟨by rw [EE.out, if_neg h11, hget]⟩
        have H2 := HS.set_out k1 s[d2]
        have H3 := Aside0.mk H2.1
        have hx9 := (H2.1.bel.cell HBK.out).trans HX0.out
        clear H2 hget EE hs0 hok HS
        have ew : IntKind.i64.wrap ((s.length : Int) - 1) = (d2 : Int) := by rw [IntKind.wrap_i64]; omega
        have ew2 : (s.length : Int) - 1 = (d2 : Int) := by omega
        have g1 : (d2 : Int) < (s.length : Int) := by omega
        have g0 : (0 : Int) ≤ (d2 : Int) := by omega
        have g3 : (d2 : Int) ≤ (s.length : Int) := by omega
        have g4 : (d2 : Int) ≤ (f : Int) := by omega
        have g5 : d2 ≤ f := by omega
        have hne : decide (x = 11) = false := decide_eq_false h11
        generalize s[d2] = y at *
        cases ho : opnB x with
        | true =>
          rw [ho] at co
          have EB2 : Aside0 (bkI (l.drop k1) k1 = s.take d2) := ⟨by rw [EB.out, ho]; simp only [if_neg h11, if_true]; rw [show s.length - 1 = d2 by omega]⟩
          clear EB ho hd2
          go_wp2_with (go_at_call 83; (with_reducible refine (co _).mono ?_); rintro e w3 ⟨rfl, n, rfl⟩)
          go_roundg k1
          case measure => omega
          case rel => exact ⟨(k1 : Int) - 1, rfl, rfl, ⟨by omega⟩, by rw [EB2.out, EE2.out]; have h4 := H3.out; rw [rep_set] at h4; have h5 := St.take_op (m := d2) h4 (by omega); exact h5.below (pw_below_drewN (Below.refl _ _) _), HLn⟩
        | false =>
          rw [ho] at co
          have EB2 : Aside0 (bkI (l.drop k1) k1 = s) := ⟨by rw [EB.out, ho]; simp [h11]⟩
          clear EB ho hd2
          go_wp2_with (go_at_call 83; (with_reducible refine (co _).mono ?_); rintro e w3 ⟨rfl, n, rfl⟩)
          go_roundg k1
          case measure => omega
          case rel => exact ⟨(k1 : Int) - 1, rfl, rfl, ⟨by omega⟩, by rw [EB2.out, EE2.out]; have h4 := H3.out; rw [rep_set] at h4; exact h4.below (pw_below_drewN (Below.refl _ _) _), HLn⟩
end Go.Proofs.Ytfncjcnlndoelaa.OwnEndsI
namespace Go.Proofs.Ytfncjcnlndoelaa.OwnEndsP
open Go Go.RowKit Go.Proofs.Ytfncjcnlndoelaa.OwnKp Go.Proofs.Ytfncjcnlndoelaa.OwnCode Go.Proofs.Ytfncjcnlndoelaa.OwnEndsS Go.Proofs.Ytfncjcnlndoelaa.OwnDeep Go.Proofs.Ytfncjcnlndoelaa.OwnEndsI
set_option linter.unusedVariables false
set_option linter.unusedSimpArgs false
theorem getD_app {α : Type} (l : List α) (r d : α) (t : Nat) : (l ++ [r]).getD t d = if t = l.length then r else l.getD t d := by
  rw [List.getD_eq_getElem?_getD, List.getD_eq_getElem?_getD]
  split
  · rename_i h; subst h; simp
  · rename_i h
    rcases Nat.lt_or_ge t l.length with k | k
    · rw [List.getElem?_append_left k]
    · rw [List.getElem?_eq_none (by simp; omega), List.getElem?_eq_none k]
theorem getD_setx {α : Type} (l : List α) (p : Nat) (r d : α) (t : Nat) (hp : p < l.length) : (l.set p r).getD t d = if t = p then r else l.getD t d := by
  rw [List.getD_eq_getElem?_getD, List.getD_eq_getElem?_getD, List.getElem?_set]
  by_cases h : t = p
  · subst h; simp [hp]
  · rw [if_neg h, if_neg (fun e => h e.symm)]
theorem getD_takex {α : Type} (l : List α) (p : Nat) (d : α) (t : Nat) : (l.take p).getD t d = if t < p then l.getD t d else d := by
  rw [List.getD_eq_getElem?_getD, List.getD_eq_getElem?_getD, List.getElem?_take]
  split <;> simp
theorem setAll_at (v : Int) : ∀ (ks : List Int) (out : List Int) (k : Nat), k < out.length → (∀ a ∈ ks, 0 ≤ a) → (setAll out ks v).getD k 0 = if (k : Int) ∈ ks then v else out.getD k 0
  | [], out, k, hk, _ => by simp [setAll]
  | a :: ks, out, k, hk, h => by
    have ha := h a (List.mem_cons_self)
    show (setAll (out.set a.toNat v) ks v).getD k 0 = _
    rw [setAll_at v ks _ k (by rw [List.length_set]; exact hk) (fun b hb => h b (List.mem_cons_of_mem _ hb))]
    by_cases h1 : (k : Int) ∈ ks
    · rw [if_pos h1, if_pos (List.mem_cons_of_mem _ h1)]
    · rw [if_neg h1]
      by_cases h2 : (k : Int) = a
      · rw [if_pos (by rw [h2]; exact List.mem_cons_self), getD_setx _ _ _ _ _ (by omega), if_pos (by omega)]
      · rw [if_neg (by intro e; rcases List.mem_cons.1 e with e | e; exact h2 e; exact h1 e), List.getD_eq_getElem?_getD, List.getElem?_set, if_neg (by omega), ← List.getD_eq_getElem?_getD]
theorem in_row {L i : Nat} {s : EndSt} (h : InvE L i s) {t : Nat} {k : Int} (hk : k ∈ s.ins.getD t []) : 0 ≤ k ∧ k < i ∧ t < s.ins.length := by
  rcases Nat.lt_or_ge t s.ins.length with c | c
  · have e : s.ins.getD t [] = s.ins[t] := by rw [List.getD_eq_getElem?_getD, List.getElem?_eq_getElem c]; rfl
    rw [e] at hk
    have := (h.e6 _ (List.getElem_mem c)).2 k hk
    exact ⟨this.1, this.2, c⟩
  · rw [List.getD_eq_getElem?_getD, List.getElem?_eq_none c] at hk
    simp at hk
def Told (xs : List (Int × Int)) (i : Nat) (s s' : EndSt) : Prop :=
  (bkI xs i).length = s.op.length ∧ okI xs i = true ∧
  (∀ (t : Nat) (k : Int), k ∈ s.ins.getD t [] → s'.out.getD k.toNat 0 = (bkI xs i).getD t 0) ∧
  (∀ k : Nat, k < i → (∀ t, (k : Int) ∉ s.ins.getD t []) → s'.out.getD k 0 = s.out.getD k 0) ∧
  (∀ j, j < xs.length → s'.out.getD (i + j) 0 = (enI xs i).getD j 0)
theorem back_main : ∀ (xs : List (Int × Int)) (i : Nat) (s s' : EndSt) (L : Nat), InvE L i s → i + xs.length ≤ L → (∀ t t' k, k ∈ s.ins.getD t [] → k ∈ s.ins.getD t' [] → t = t') → runE xs i s = some s' → s'.op.length = 0 → Told xs i s s' := by
  intro xs
  induction xs with
  | nil =>
    intro i s s' L hI hL D hr h0
    simp only [runE, Option.some.injEq] at hr
    subst hr
    have hn : s.ins = [] := List.length_eq_zero_iff.1 (by rw [hI.e2]; exact h0)
    refine ⟨by rw [h0]; rfl, rfl, fun t k hk => ?_, fun _ _ _ => rfl, fun j hj => by simp at hj⟩
    rw [hn] at hk
    simp at hk
  | cons x xs ih =>
    intro i s s' L hI hL D hr h0
    obtain ⟨x, y⟩ := x
    unfold runE at hr
    obtain ⟨s1, hs, hr⟩ := Option.bind_eq_some_iff.1 hr
    have hI1 := inv_step hI hs
    have hL1 : i + 1 + xs.length ≤ L := by simp only [List.length_cons] at hL; omega
    have eb : bkI ((x, y) :: xs) i = if opnB x = true then (if x = 11 then bkI xs (i + 1) ++ [(i : Int)] else bkI xs (i + 1)).take ((if x = 11 then bkI xs (i + 1) ++ [(i : Int)] else bkI xs (i + 1)).length - 1) else (if x = 11 then bkI xs (i + 1) ++ [(i : Int)] else bkI xs (i + 1)) := rfl
    have ee : enI ((x, y) :: xs) i = (if x = 11 then (i : Int) else (bkI xs (i + 1)).getD ((bkI xs (i + 1)).length - 1) 0) :: enI xs (i + 1) := rfl
    have eo : okI ((x, y) :: xs) i = ((decide (x = 11) || decide (bkI xs (i + 1) ≠ [])) && okI xs (i + 1)) := rfl
    have e2 := hI.e2
    have bound : ∀ (t : Nat) (k : Int), k ∈ s.ins.getD t [] → 0 ≤ k ∧ k < i ∧ t < s.ins.length := fun t k hk => in_row hI hk
    simp only at hs
    unfold stepE at hs
    by_cases c0 : s.op.length = 0
    · rw [if_pos c0] at hs; cases hs
    rw [if_neg c0] at hs
    by_cases c1 : x = 2 ∨ x = 3 ∨ x = 4
    · rw [if_pos c1] at hs
      injection hs with hs
      have n11 : x ≠ 11 := by omega
      have ho : opnB x = true := by unfold opnB; rw [decide_eq_true c1]
      have g : ∀ t, s1.ins.getD t [] = if t = s.ins.length then [(i : Int)] else s.ins.getD t [] := by intro t; rw [← hs]; exact getD_app _ _ _ _
      have D1 : ∀ t t' k, k ∈ s1.ins.getD t [] → k ∈ s1.ins.getD t' [] → t = t' := by
        intro t t' k h1 h2
        rw [g] at h1 h2
        split at h1 <;> split at h2
        · omega
        · have := bound t' k h2; simp at h1; omega
        · have := bound t k h1; simp at h2; omega
        · exact D t t' k h1 h2
      obtain ⟨a1, a2, a3, a4, a5⟩ := ih (i + 1) s1 s' L hI1 hL1 D1 hr h0
      have ol : s1.op.length = s.op.length + 1 := by rw [← hs]; simp
      have oo : s1.out = s.out := by rw [← hs]
      rw [ol] at a1
      rw [if_neg n11, if_pos ho] at eb
      rw [if_neg n11] at ee
      refine ⟨by rw [eb, List.length_take]; omega, ?_, fun t k hk => ?_, fun k hk hn => ?_, fun j hj => ?_⟩
      · rw [eo, a2, Bool.and_true, decide_eq_true (p := bkI xs (i + 1) ≠ []) (by intro e; rw [e] at a1; simp at a1), Bool.or_true]
      · have b := bound t k hk
        rw [a3 t k (by rw [g, if_neg (by omega)]; exact hk), eb, getD_takex, if_pos (by omega)]
      · rw [a4 k (by omega) (fun t h => by rw [g] at h; split at h; · simp at h; omega
                                           · exact hn t h), oo]
      · rw [ee]
        cases j with
        | zero =>
          have := a3 s.ins.length i (by rw [g, if_pos rfl]; simp)
          rw [Int.toNat_natCast] at this
          rw [Nat.add_zero, this, show (bkI xs (i + 1)).length - 1 = s.ins.length by omega]
          rfl
        | succ j =>
          have := a5 j (by simpa using hj)
          rw [show i + (j + 1) = i + 1 + j by omega, this]
          rfl
    · rw [if_neg c1] at hs
      have ho : opnB x = false := by unfold opnB; rw [decide_eq_false c1]
      have hno : ¬ opnB x = true := by rw [ho]; decide
      rw [if_neg hno] at eb
      by_cases c2 : x = 5 ∧ s.els.getD (s.op.length - 1) false = true
      · rw [if_pos c2] at hs; cases hs
      rw [if_neg c2] at hs
      have hp : s.op.length - 1 < s.ins.length := by omega
      have gs : ∀ t, (s.ins.set (s.op.length - 1) (s.ins.getD (s.op.length - 1) [] ++ [(i : Int)])).getD t [] = if t = s.op.length - 1 then s.ins.getD (s.op.length - 1) [] ++ [(i : Int)] else s.ins.getD t [] := fun t => getD_setx _ _ _ _ _ hp
      by_cases c3 : x = 11
      · simp only [if_pos c3] at hs
        injection hs with hs
        rw [if_pos c3] at eb ee
        have g : ∀ t, s1.ins.getD t [] = if t < s.op.length - 1 then s.ins.getD t [] else [] := by
          intro t
          rw [← hs]
          show ((s.ins.set (s.op.length - 1) _).take (s.op.length - 1)).getD t [] = _
          rw [getD_takex, gs]
          split
          · rw [if_neg (by omega)]
          · rfl
        have D1 : ∀ t t' k, k ∈ s1.ins.getD t [] → k ∈ s1.ins.getD t' [] → t = t' := by
          intro t t' k h1 h2
          rw [g] at h1 h2
          split at h1 <;> split at h2
          · exact D t t' k h1 h2
          · simp at h2
          · simp at h1
          · simp at h1
        obtain ⟨a1, a2, a3, a4, a5⟩ := ih (i + 1) s1 s' L hI1 hL1 D1 hr h0
        have ol : s1.op.length = s.op.length - 1 := by rw [← hs]; simp
        have oo : ∀ k : Nat, k < L → s1.out.getD k 0 = if (k : Int) ∈ s.ins.getD (s.op.length - 1) [] ++ [(i : Int)] then (i : Int) else s.out.getD k 0 := by
          intro k hk
          rw [← hs]
          refine setAll_at _ _ _ _ (by rw [hI.e5]; exact hk) (fun a ha => ?_)
          rcases List.mem_append.1 ha with ha | ha
          · exact (bound _ _ ha).1
          · simp at ha; omega
        rw [ol] at a1
        refine ⟨by rw [eb, List.length_append, a1]; simp; omega, by rw [eo, a2, decide_eq_true c3]; rfl, fun t k hk => ?_, fun k hk hn => ?_, fun j hj => ?_⟩
        · have b := bound t k hk
          rw [eb, getD_app, a1]
          by_cases ht : t = s.op.length - 1
          · rw [if_pos ht]
            have hk2 : ((k.toNat : Nat) : Int) = k := by omega
            have := a4 k.toNat (by omega) (fun t' h => by
              rw [hk2, g] at h
              split at h
              · have := D t t' k hk h; omega
              · simp at h)
            rw [this, oo _ (by omega), if_pos (by rw [hk2]; rw [ht] at hk; exact List.mem_append_left _ hk)]
          · rw [if_neg ht, a3 t k (by rw [g, if_pos (by omega)]; exact hk)]
        · rw [a4 k (by omega) (fun t h => by rw [g] at h; split at h; · exact hn t h
                                             · simp at h), oo k (by omega), if_neg]
          intro h
          rcases List.mem_append.1 h with h | h
          · exact hn _ h
          · simp at h; omega
        · rw [ee]
          cases j with
          | zero =>
            have := a4 i (by omega) (fun t h => by
              rw [g] at h
              split at h
              · have := bound t _ h; omega
              · simp at h)
            rw [Nat.add_zero, this, oo i (by omega), if_pos (by simp)]
            rfl
          | succ j =>
            have := a5 j (by simpa using hj)
            rw [show i + (j + 1) = i + 1 + j by omega, this]
            rfl
      · simp only [if_neg c3] at hs
        injection hs with hs
        rw [if_neg c3] at eb ee
        have g : ∀ t, s1.ins.getD t [] = if t = s.op.length - 1 then s.ins.getD (s.op.length - 1) [] ++ [(i : Int)] else s.ins.getD t [] := by intro t; rw [← hs]; exact gs t
        have D1 : ∀ t t' k, k ∈ s1.ins.getD t [] → k ∈ s1.ins.getD t' [] → t = t' := by
          intro t t' k h1 h2
          have red : ∀ t, k ∈ s1.ins.getD t [] → k ∈ s.ins.getD t [] ∨ (k = i ∧ t = s.op.length - 1) := by
            intro t h
            rw [g] at h
            split at h
            · rename_i e
              rcases List.mem_append.1 h with h | h
              · left; rw [e]; exact h
              · right; simp at h; exact ⟨h, e⟩
            · exact .inl h
          rcases red t h1 with h1 | h1 <;> rcases red t' h2 with h2 | h2
          · exact D t t' k h1 h2
          · have := bound t k h1; omega
          · have := bound t' k h2; omega
          · omega
        obtain ⟨a1, a2, a3, a4, a5⟩ := ih (i + 1) s1 s' L hI1 hL1 D1 hr h0
        have ol : s1.op.length = s.op.length := by rw [← hs]
        have oo : s1.out = s.out := by rw [← hs]
        rw [ol] at a1
        refine ⟨by rw [eb, a1], ?_, fun t k hk => ?_, fun k hk hn => ?_, fun j hj => ?_⟩
        · rw [eo, a2, Bool.and_true, decide_eq_true (p := bkI xs (i + 1) ≠ []) (by intro e; rw [e] at a1; simp at a1; omega), Bool.or_true]
        · have hin : k ∈ s1.ins.getD t [] := by
            rw [g]
            split
            · rename_i e
              rw [e] at hk
              exact List.mem_append_left _ hk
            · exact hk
          rw [a3 t k hin, eb]
        · rw [a4 k (by omega) (fun t h => by
            rw [g] at h
            split at h
            · rcases List.mem_append.1 h with h | h
              · exact hn _ h
              · simp at h; omega
            · exact hn t h), oo]
        · rw [ee]
          cases j with
          | zero =>
            have := a3 (s.op.length - 1) i (by rw [g, if_pos rfl]; simp)
            rw [Int.toNat_natCast] at this
            rw [Nat.add_zero, this, a1]
            rfl
          | succ j =>
            have := a5 j (by simpa using hj)
            rw [show i + (j + 1) = i + 1 + j by omega, this]
            rfl
/-- Of a good body the reference tells the ends that the program reads off. -/
theorem ends_same (l : List (Int × Int)) (h : (endsM l).2.2 = true) : (endsM l).1 = enI l 0 ∧ okI l 0 = true ∧ l.length ≤ 200 := by
  unfold endsM at h ⊢
  by_cases c : goodC l = true ∧ l ≠ []
  · rw [if_pos c] at h ⊢
    cases hr : runE l 0 (iniE l.length) with
    | none => rw [hr] at h; cases h
    | some s' =>
      rw [hr] at h
      have h0 : s'.op.length = 0 := by simpa [resE] using h
      have T := back_main l 0 (iniE l.length) s' l.length (inv_ini _) (by omega) (by
        intro t t' k h1 h2
        have e : ∀ t, (iniE l.length).ins.getD t [] = [] := by intro t; cases t <;> rfl
        rw [e] at h1
        simp at h1) hr h0
      obtain ⟨_, t2, _, _, t5⟩ := T
      have hlen : s'.out.length = l.length := by
        have key : ∀ (xs : List (Int × Int)) (i : Nat) (s : EndSt), InvE l.length i s → runE xs i s = some s' → s'.out.length = l.length := by
          intro xs
          induction xs with
          | nil => intro i s hI hq; simp only [runE, Option.some.injEq] at hq; subst hq; exact hI.e5
          | cons x xs ih =>
            intro i s hI hq
            unfold runE at hq
            obtain ⟨s1, k1, k2⟩ := Option.bind_eq_some_iff.1 hq
            exact ih (i + 1) s1 (inv_step hI k1) k2
        exact key l 0 _ (inv_ini _) hr
      refine ⟨?_, t2, goodC_len c.1⟩
      show s'.out = enI l 0
      apply List.ext_getElem (by rw [hlen, enI_len])
      intro j h1 h2
      have := t5 j (by omega)
      rw [Nat.zero_add] at this
      rw [List.getD_eq_getElem?_getD, List.getD_eq_getElem?_getD, List.getElem?_eq_getElem h1, List.getElem?_eq_getElem h2] at this
      exact this
  · rw [if_neg c] at h; cases h
end Go.Proofs.Ytfncjcnlndoelaa.OwnEndsP
namespace Go.Proofs.Ytfncjcnlndoelaa.OwnMkE
open Go Go.RowKit Go.Proofs.YtfncjcnlndoelaaW.PrintWords Go.Proofs.YtfncjcnlndoelaaW.PrintLast Go.Proofs.YtfncjcnlndoelaaW.PrintMore Go.Proofs.Ytfncjcnlndoelaa.OwnBs Go.Proofs.Ytfncjcnlndoelaa.OwnKp Go.Proofs.Ytfncjcnlndoelaa.OwnSt
set_option linter.unusedVariables false
set_option linter.unusedSimpArgs false
/-- 1, 2, 3 .. -/
def marks (n : Nat) : List Int := (List.range n).map fun (i : Nat) => (i : Int) + 1
theorem marks_len (n : Nat) : (marks n).length = n := by simp [marks]
theorem marks_succ (n : Nat) : marks (n + 1) = marks n ++ [(n : Int) + 1] := by simp [marks, List.range_succ]
theorem marks_set (l : List Int) (i : Nat) (h : i < l.length) : (marks i ++ l.drop i).set i ((i : Int) + 1) = marks (i + 1) ++ l.drop (i + 1) := by
  rw [List.set_append_right _ _ (by rw [marks_len]; exact Nat.le_refl _), marks_len, Nat.sub_self, List.drop_eq_getElem_cons h, List.set_cons_zero, marks_succ, List.append_assoc]
  rfl
/-- Only the row's own block has changed. -/
def Only (v : Value) (w w' : World) : Prop := (∀ k, v.ownBlock ≠ some k → w'.heap[k]? = w.heap[k]?) ∧ w'.heap.size = w.heap.size
set_option maxRecDepth 100000 in
set_option maxHeartbeats 4000000 in
theorem mark_ints (B : Nat) (v : Value) (l : List Int) (w : World) (hR : dI.R 3 w B (fun _ => True) v l) (hl : l.length ≤ 1000) : Calls Try.prog 32 #[v, .int .i64 1] w fun e w' => e = .returned (.int .i64 ((l.length : Int) + 1)) ∧ dI.R 3 w' B (fun _ => True) v (marks l.length) ∧ Only v w w' ∧ Below B w w' := by
  obtain ⟨A, c, rfl⟩ := Kd.R_slice hR
  have H0 : Aside0 (dI.R 3 w B (fun _ => True) (.slice A l.length c) (marks 0 ++ l.drop 0) ∧ Only (.slice A l.length c) w w ∧ Below B w w) := ⟨hR, ⟨fun _ _ => rfl, rfl⟩, Below.refl _ _⟩
  have HF : Aside0 (0 < l.length → ∃ g, A = some ⟨g, 0, none⟩ ∧ B ≤ g) := ⟨fun h => by
    obtain ⟨g, c', e, hg, _⟩ := Kd.R_form hR h
    injection e with e1
    exact ⟨g, e1, by first | exact hg | exact hg.1⟩⟩
  clear hR
  go_enter Try.func32, Try.ntmps32
  go_wp2
  go_loopg [1, 5] l.length (fun kq v1 v5 w' => ∃ i : Nat, i + kq = l.length ∧ v1 = .int .i64 ((i : Int) + 1) ∧ v5 = .int .i64 i ∧ Aside0 (dI.R 3 w' B (fun _ => True) (.slice A l.length c) (marks i ++ l.drop i) ∧ Only (.slice A l.length c) w w' ∧ Below B w w'))
  case atStart => exact ⟨0, by omega, rfl, rfl, H0⟩
  case round =>
    clear H0
    obtain ⟨i, hi, rfl, rfl, HQ⟩ := hrel
    cases gk with
    | zero =>
      obtain rfl : i = l.length := by omega
      have hd : decide ((l.length : Int) < (l.length : Int)) = false := decide_eq_false (by omega)
      obtain ⟨q1, q2, q3⟩ := HQ.out
      rw [List.drop_length, List.append_nil] at q1
      go_wp2
      go_ret
      exact ⟨rfl, q1, q2, q3⟩
    | succ k1 =>
      have hil : i < l.length := by omega
      have hd : decide ((i : Int) < (l.length : Int)) = true := decide_eq_true (by omega)
      obtain ⟨g, rfl, hg⟩ := HF.out (by omega)
      have hlen : (marks i ++ l.drop i).length = l.length := by rw [List.length_append, marks_len, List.length_drop]; omega
      have hc := Kd.R_celln (enc := Value.int .i64) (h1 := fun _ => rfl) 0 HQ.out.1 (i : Int) (by omega) (by omega)
      obtain ⟨hR2, hg2⟩ := Kd.R_putg (enc := Value.int .i64) (h1 := fun _ => rfl) HQ.out.1 (i : Int) ((i : Int) + 1)
      rw [Int.toNat_natCast] at hc hR2 hg2
      rw [marks_set l i hil] at hR2
      have HQ2 : Aside0 (dI.R 3 (wr.setCell ⟨g, i, none⟩ (.int .i64 ((i : Int) + 1))) B (fun _ => True) (.slice (some ⟨g, 0, none⟩) l.length c) (marks (i + 1) ++ l.drop (i + 1)) ∧ Only (.slice (some ⟨g, 0, none⟩) l.length c) w (wr.setCell ⟨g, i, none⟩ (.int .i64 ((i : Int) + 1))) ∧ Below B w (wr.setCell ⟨g, i, none⟩ (.int .i64 ((i : Int) + 1)))) := ⟨hR2, ⟨fun k hk => (Below.heap_setCell _ _ _ _ (fun e => hk (by rw [e]; rfl))).trans (HQ.out.2.1.1 k hk), by simpa [World.setCell] using HQ.out.2.1.2⟩, HQ.out.2.2.setCell (p := ⟨g, i, none⟩) hg _⟩
      obtain ⟨c1, c2⟩ := hc
      clear hR2 hg2 HQ HF
      have q1 : (0 : Int) ≤ (i : Int) := by omega
      have q2 : (i : Int) < (l.length : Int) := by omega
      have ew : IntKind.i64.wrap ((i : Int) + 1 + 1) = (i : Int) + 1 + 1 := by rw [IntKind.wrap_i64]; omega
      go_wp2
      go_roundg k1
      case measure => omega
      case rel => exact ⟨i + 1, by omega, by rw [Int.natCast_add]; rfl, by rw [Int.natCast_add]; rfl, HQ2⟩
theorem cell_of {w : World} {g T : Nat} {cur : Array Value} (h : w.heap[g]? = some (.cells cur T (0, 0))) (j : Nat) (hj : j < cur.size) : (∃ u, w.cell? ⟨g, j, none⟩ = some u) ∧ w.frozen? ⟨g, j, none⟩ = false := by
  refine ⟨⟨cur[j], ?_⟩, Lib.frozen_of_heap h j⟩
  rw [Lib.cell_of_heap h]
  simp [Array.getElem?_eq_getElem hj]
theorem set_heap {w : World} {g T : Nat} {cur : Array Value} (h : w.heap[g]? = some (.cells cur T (0, 0))) (j : Nat) (u : Value) : ∃ cur', (w.setCell ⟨g, j, none⟩ u).heap[g]? = some (.cells cur' T (0, 0)) ∧ cur'.size = cur.size :=
  ⟨cur.setIfInBounds j u, by simp [World.setCell, Array.getElem?_modify, h], by simp⟩
set_option maxRecDepth 100000 in
set_option maxHeartbeats 4000000 in
theorem mark_ins (B : Nat) (v : Value) (n : Nat) (inner : List Value) (w : World) (hO : w.ownsRow B 86 2 v n inner) (hn : n ≤ 1048576) : Calls Try.prog 31 #[v, .int .i64 1] w fun e w' => e = .returned (.int .i64 ((n : Int) * 2 + 1)) ∧ Only v w w' ∧ Below B w w' := by
  by_cases h0 : n = 0
  · subst h0
    obtain ⟨A, c, rfl⟩ : ∃ A c, v = .slice A 0 c := by
      rcases hO.2 with ⟨e, _⟩ | ⟨g, cap, cur, e, _⟩
      · exact ⟨_, _, e⟩
      · exact ⟨_, _, e⟩
    clear hO
    go_enter Try.func31, Try.ntmps31
    go_wp2
    go_loopg [1, 5] 0 (fun kq v1 v5 w' => v1 = .int .i64 1 ∧ v5 = .int .i64 0 ∧ w' = w)
    case atStart => exact ⟨rfl, rfl, rfl⟩
    case round =>
      obtain ⟨rfl, rfl, rfl⟩ := hrel
      go_wp2
      go_ret
      exact ⟨rfl, ⟨fun _ _ => rfl, rfl⟩, Below.refl _ _⟩
  · obtain ⟨g, cap, cur, rfl, hg, hh, hnc, _, hcs, _⟩ : ∃ g cap cur, v = .slice (some ⟨g, 0, none⟩) n cap ∧ B ≤ g ∧ w.heap[g]? = some (.cells cur 86 (0, 0)) ∧ n ≤ cap ∧ cap ≤ maxLen ∧ cur.size = cap * 2 ∧ cur.toList.take (n * 2) = inner := by
      rcases hO.2 with ⟨_, e⟩ | h
      · exact absurd e h0
      · exact h
    have hsz : n * 2 ≤ cur.size := by omega
    have H0 : Aside0 ((∃ cur', w.heap[g]? = some (.cells cur' 86 (0, 0)) ∧ n * 2 ≤ cur'.size) ∧ Only (.slice (some ⟨g, 0, none⟩) n cap) w w ∧ Below B w w) := ⟨⟨cur, hh, hsz⟩, ⟨fun _ _ => rfl, rfl⟩, Below.refl _ _⟩
    clear hO hh hcs hsz
    go_enter Try.func31, Try.ntmps31
    go_wp2
    go_loopg [1, 5] n (fun kq v1 v5 w' => ∃ i : Nat, i + kq = n ∧ v1 = .int .i64 ((i : Int) * 2 + 1) ∧ v5 = .int .i64 i ∧ Aside0 ((∃ cur', w'.heap[g]? = some (.cells cur' 86 (0, 0)) ∧ n * 2 ≤ cur'.size) ∧ Only (.slice (some ⟨g, 0, none⟩) n cap) w w' ∧ Below B w w'))
    case atStart => exact ⟨0, by omega, rfl, rfl, H0⟩
    case round =>
      clear H0
      obtain ⟨i, hi, rfl, rfl, HQ⟩ := hrel
      cases gk with
      | zero =>
        obtain rfl : i = n := by omega
        have hd : decide ((i : Int) < (i : Int)) = false := decide_eq_false (by omega)
        go_wp2
        go_ret
        exact ⟨rfl, HQ.out.2.1, HQ.out.2.2⟩
      | succ k1 =>
        have hil : i < n := by omega
        have hd : decide ((i : Int) < (n : Int)) = true := decide_eq_true (by omega)
        obtain ⟨⟨cur', hh, hsz⟩, ⟨o1, o2⟩, hB⟩ := HQ.out
        obtain ⟨⟨u0, x0⟩, f0⟩ := cell_of hh (i * 2) (by omega)
        obtain ⟨⟨u1, x1⟩, f1⟩ := cell_of hh (i * 2 + 1) (by omega)
        obtain ⟨cu2, hh2, hs2⟩ := set_heap hh (i * 2) (.int .i64 ((i : Int) * 2 + 1))
        obtain ⟨cu3, hh3, hs3⟩ := set_heap hh2 (i * 2 + 1) (.int .i64 ((i : Int) * 2 + 1 + 1))
        have HQ2 : Aside0 ((∃ cur', ((wr.setCell ⟨g, i * 2, none⟩ (.int .i64 ((i : Int) * 2 + 1))).setCell ⟨g, i * 2 + 1, none⟩ (.int .i64 ((i : Int) * 2 + 1 + 1))).heap[g]? = some (.cells cur' 86 (0, 0)) ∧ n * 2 ≤ cur'.size) ∧ Only (.slice (some ⟨g, 0, none⟩) n cap) w ((wr.setCell ⟨g, i * 2, none⟩ (.int .i64 ((i : Int) * 2 + 1))).setCell ⟨g, i * 2 + 1, none⟩ (.int .i64 ((i : Int) * 2 + 1 + 1))) ∧ Below B w ((wr.setCell ⟨g, i * 2, none⟩ (.int .i64 ((i : Int) * 2 + 1))).setCell ⟨g, i * 2 + 1, none⟩ (.int .i64 ((i : Int) * 2 + 1 + 1)))) :=
          ⟨⟨cu3, hh3, by omega⟩, ⟨fun k hk => by
            have hk2 : k ≠ g := fun e => hk (by rw [e]; rfl)
            rw [Below.heap_setCell _ _ _ _ hk2, Below.heap_setCell _ _ _ _ hk2]
            exact o1 k hk, by simpa [World.setCell] using o2⟩, (hB.setCell (p := ⟨g, i * 2, none⟩) hg _).setCell (p := ⟨g, i * 2 + 1, none⟩) hg _⟩
        clear hh hh2 hh3 hs2 hs3 hsz o1 o2 hB HQ
        have q1 : (0 : Int) ≤ (i : Int) := by omega
        have q2 : (i : Int) < (n : Int) := by omega
        have ew : IntKind.i64.wrap ((i : Int) * 2 + 1 + 1) = (i : Int) * 2 + 1 + 1 := by rw [IntKind.wrap_i64]; omega
        have ew2 : IntKind.i64.wrap ((i : Int) * 2 + 1 + 1 + 1) = (i : Int) * 2 + 1 + 1 + 1 := by rw [IntKind.wrap_i64]; omega
        go_wp2
        go_roundg k1
        case measure => omega
        case rel => exact ⟨i + 1, by omega, congrArg (Value.int .i64) (by omega), by rw [Int.natCast_add]; rfl, HQ2⟩
/-- heldIntS over what was marked. -/
theorem held_told (l : List Int) (hl : l.length ≤ 1000) (hm : l = marks l.length) : Ev (fun k => PheldIntS.laws_heldIntS.f k l 1) ((l.length : Int) + 1) := by
  have key : ∀ (m i : Nat), i + m = l.length → Ev (fun k => PheldIntS.laws_heldIntS.l0 k l ((i : Int) + 1) (i : Int)) ((l.length : Int) + 1) := by
    intro m
    induction m with
    | zero =>
      intro i hi
      refine Pl.ev_const 1 fun k => ?_
      simp only [PheldIntS.laws_heldIntS.l0]
      rw [if_neg (by omega), show i = l.length by omega]
    | succ m ih =>
      intro i hi
      refine Pl.ev_skip 1 (fun k => ?_) (ih (i + 1) (by omega))
      have e1 : l[i] = (i : Int) + 1 := by
        have : l[i]? = some ((i : Int) + 1) := by
          rw [hm]
          have hi2 : i < l.length := by omega
          simp [marks, hi2]
        rw [List.getElem?_eq_getElem (by omega)] at this
        exact Option.some.inj this
      show PheldIntS.laws_heldIntS.l0 (k + 1) l _ (i : Int) = _
      simp only [PheldIntS.laws_heldIntS.l0]
      rw [if_pos (by omega), if_pos (by omega), Pl.rd_at l i (by omega), if_pos e1, Pl.w64s i l.length (by omega) (by omega), Pl.w64 (by omega) (by omega), Int.natCast_add]
      rfl
  exact key l.length 0 (by omega)
theorem held_ints (A : Option Addr) (c n : Nat) (w : World) (hr : Kd.C (Kd.int .i64) w A n (marks n)) (hc : n ≤ c) (hn : n ≤ 1000) : Calls Try.prog 33 #[.slice A n c, .int .i64 1] w fun e w' => e = .returned (.int .i64 ((n : Int) + 1)) ∧ Below w.heap.size w w' := by
  obtain ⟨k, hk⟩ := (held_told (marks n) (by rw [marks_len]; exact hn) (by rw [marks_len])).rounds
  have := PheldIntS.laws_heldIntS.calls k A c (marks n) 1 _ w (by rw [marks_len]; exact hr) (by rw [marks_len]; exact hc) hk
  rw [marks_len] at this
  exact this.mono fun e w' h => ⟨h.1, by first | exact h.2 | exact h.2.below⟩
section
open PeqIntS
theorem eqIntS_refl (l : List Int) (hl : l.length ≤ 35184372088832) : Ev (fun k => laws_eqIntS.f k l l) true := by
  have key : ∀ (m i : Nat), i + m = l.length → Ev (fun k => laws_eqIntS.l0 k l l (i : Int)) true := by
    intro m
    induction m with
    | zero =>
      intro i hi
      refine Pl.ev_const 1 fun k => ?_
      simp only [laws_eqIntS.l0]
      rw [if_neg (by omega)]
    | succ m ih =>
      intro i hi
      refine Pl.ev_skip 1 (fun k => ?_) (ih (i + 1) (by omega))
      show laws_eqIntS.l0 (k + 1) l l (i : Int) = _
      simp only [laws_eqIntS.l0]
      rw [if_pos (by omega), if_pos (by omega), if_pos (by omega), if_pos trivial, Pl.w64s i l.length (by omega) (by omega)]
  unfold laws_eqIntS.f
  simp only [eq_self, if_true]
  exact key l.length 0 (by omega)
end
theorem eqInts (A : Option Addr) (c : Nat) (A' : Option Addr) (c' : Nat) (l : List Int) (n : Nat) (hn : n = l.length) (w : World) (hr : Kd.C (Kd.int .i64) w A n l) (hc : n ≤ c) (hr' : Kd.C (Kd.int .i64) w A' n l) (hc' : n ≤ c') (hl : n ≤ 1000) : Calls Try.prog 30 #[.slice A n c, .slice A' n c'] w fun e w' => e = .returned (.bool true) ∧ Below w.heap.size w w' := by
  subst hn
  obtain ⟨k, hk⟩ := (eqIntS_refl l (by omega)).rounds
  exact (PeqIntS.laws_eqIntS.calls k A c l A' c' l true w hr hc hr' hc' hk).mono fun e w' h => ⟨h.1, by first | exact h.2 | exact h.2.below⟩
end Go.Proofs.Ytfncjcnlndoelaa.OwnMkE
namespace Go.Proofs.Ytfncjcnlndoelaa.OwnEndsL
open Go Go.RowKit Go.Proofs.YtfncjcnlndoelaaW.PrintWords Go.Proofs.YtfncjcnlndoelaaW.PrintLast Go.Proofs.YtfncjcnlndoelaaW.PrintMore Go.Proofs.Ytfncjcnlndoelaa.OwnBs Go.Proofs.Ytfncjcnlndoelaa.OwnKp Go.Proofs.Ytfncjcnlndoelaa.OwnCode Go.Proofs.Ytfncjcnlndoelaa.OwnSt Go.Proofs.Ytfncjcnlndoelaa.OwnEndsS Go.Proofs.Ytfncjcnlndoelaa.OwnDeep Go.Proofs.Ytfncjcnlndoelaa.OwnDeepEq Go.Proofs.Ytfncjcnlndoelaa.OwnInsS Go.Proofs.Ytfncjcnlndoelaa.OwnEndsI Go.Proofs.Ytfncjcnlndoelaa.OwnEndsP Go.Proofs.Ytfncjcnlndoelaa.OwnMkE
set_option linter.unusedVariables false
set_option linter.unusedSimpArgs false
/-- What EndsOf tells. -/
def enM (l : List (Int × Int)) : List Int × Bool := if (endsM l).2.2 = true then (enI l 0, true) else ([], false)
def EoPost (w : World) (r : List Int × Bool) (e : Ending) (w' : World) : Prop := ∃ A c, e = .returned (.tuple #[.slice A r.1.length c, .bool r.2]) ∧ dI.R 3 w' w.heap.size (fun _ => True) (.slice A r.1.length c) r.1 ∧ Below w.heap.size w w'
theorem R_same {w w1 : World} {B : Nat} {v : Value} {xs : List Int} (h : dI.R 3 w B (fun _ => True) v xs) (hk : ∀ k, v.ownBlock = some k → w1.heap[k]? = w.heap[k]?) : dI.R 3 w1 B (fun _ => True) v xs :=
  Kd.R_mono (Kd.R_step (Kd.R_tight rfl h) (fun k hk2 _ => hk k hk2.symm)) (fun _ _ => trivial)
set_option maxRecDepth 100000 in
set_option maxHeartbeats 4000000 in
theorem spec_Eo (A : Option Addr) (c : Nat) (l : List (Int × Int)) (w : World) (hr : Kd.C kI w A l.length l) (hc : l.length ≤ c) (hl : l.length ≤ 1048576) : Calls Try.prog 28 #[.slice A l.length c] w (EoPost w (enM l)) := by
  have HR := Aside0.mk hr
  have ce := fun w hr => ends_s A c l w hr hc hl
  have hs := ends_same l
  unfold enM
  clear hr
  cases hok : (endsM l).2.2 with
  | true =>
    have e1 := (hs hok).1
    rw [if_pos rfl]
    generalize endsM l = r at *
    obtain ⟨out, dp, ok⟩ := r
    simp only at hok e1
    subst hok
    subst e1
    clear hs
    go_enter Try.func28, Try.ntmps28
    go_wp2_with fail
    refine (ce _ HR.out).mono ?_
    rintro e w1 ⟨v, rfl, R1, B1⟩
    obtain ⟨A1, c1, rfl⟩ := Kd.R_slice R1
    go_wp2_with fail
    go_ret2
    exact ⟨A1, c1, rfl, R1, B1⟩
  | false =>
    rw [if_neg (by decide)]
    generalize endsM l = r at *
    obtain ⟨out, dp, ok⟩ := r
    simp only at hok
    subst hok
    clear hs
    go_enter Try.func28, Try.ntmps28
    go_wp2_with fail
    refine (ce _ HR.out).mono ?_
    rintro e w1 ⟨v, rfl, R1, B1⟩
    obtain ⟨A1, c1, rfl⟩ := Kd.R_slice R1
    go_wp2_with fail
    go_ret2
    exact ⟨none, 0, rfl, Kd.R_nil _ _ _ _ _, B1⟩
set_option maxRecDepth 100000 in
set_option maxHeartbeats 4000000 in
theorem impl_Eo (A : Option Addr) (c : Nat) (l : List (Int × Int)) (w : World) (hr : Kd.C kI w A l.length l) (hc : l.length ≤ c) (hl : l.length ≤ 1048576) : Calls Try.prog 29 #[.slice A l.length c] w (EoPost w (enM l)) := by
  have HR := Aside0.mk hr
  have ce := fun w hr => deep_i A c l w hr hc hl
  have hd := deep_ends l
  have hs := ends_same l
  unfold enM
  clear hr
  cases hok : (endsM l).2.2 with
  | true =>
    obtain ⟨e1, e2, e3⟩ := hs hok
    rw [hok, if_pos rfl] at hd
    rw [if_pos rfl]
    have h3 := hd.2 rfl
    have h5 := hd.1
    rw [← h5] at h3
    have cb := fun w hr => ends_i A c l w hr hc e3 e2
    clear hs e1 hd h5 hok
    generalize deepM l = n at *
    have hn0 : decide ((n : Int) = 0) = false := decide_eq_false (by omega)
    have hn1 : ¬ (n : Int) = 0 := by omega
    have hn2 : ¬ n = 0 := by omega
    have hlen := enI_len l 0
    generalize enI l 0 = E at *
    go_enter Try.func29, Try.ntmps29
    go_wp2_with fail
    refine (ce _ HR.out).mono ?_
    rintro e w1 ⟨rfl, B1⟩
    go_wp2_with fail
    refine (cb _ (Kd.C_below HR.out B1)).mono ?_
    rintro e w2 ⟨A2, c2, rfl, R2, B2⟩
    have B := below_step B1 B2
    have R3 := Kd.R_lower R2 B1.size
    clear R2
    go_wp2_with fail
    go_ret2
    exact ⟨A2, c2, by rw [hlen]; rfl, by rw [hlen]; exact R3, B⟩
  | false =>
    rw [hok, if_neg (by decide)] at hd
    rw [if_neg (by decide)]
    have h5 := hd.1
    clear hs hd hok
    generalize deepM l = n at *
    subst h5
    go_enter Try.func29, Try.ntmps29
    go_wp2_with fail
    refine (ce _ HR.out).mono ?_
    rintro e w1 ⟨rfl, B1⟩
    go_wp2_with fail
    go_ret2
    exact ⟨none, 0, rfl, Kd.R_nil _ _ _ _ _, B1⟩
theorem enM_len (l : List (Int × Int)) : (enM l).1.length ≤ 1000 := by
  unfold enM
  split
  · rename_i h
    have := ends_same l h
    show (enI l 0).length ≤ 1000
    rw [enI_len]
    omega
  · exact Nat.zero_le _
/-- The statement's copy of a body is the call's own. -/
theorem toInsO (A : Option Addr) (c : Nat) (l : List (Int × Int)) (w : World) (hr : Kd.C kI w A l.length l) (hc : l.length ≤ c) (hl : l.length ≤ 1048576) : Calls Try.prog 23 #[.slice A l.length c] w fun e w' => ∃ A' c' inner, e = .returned (.slice A' l.length c') ∧ l.length ≤ c' ∧ Kd.C kI w' A' l.length l ∧ w'.ownsRow w.heap.size 86 2 (.slice A' l.length c') l.length inner ∧ Below w.heap.size w w' := by
  obtain ⟨k, hk⟩ := (toInsS_told l hl).rounds
  have h1 : Kd.C PtoInsS.k88 w A (l.map mkA).length (l.map mkA) := by rw [List.length_map]; exact C_ofmap (fun _ => rfl) hr
  have := PtoInsS.laws_toInsS.calls k A c (l.map mkA) _ w h1 (by rw [List.length_map]; exact hc) hk
  rw [List.length_map] at this
  refine this.mono ?_
  rintro e w' ⟨v, rfl, hR, hb⟩
  obtain ⟨A', c', rfl⟩ := Kd.R_slice hR
  obtain ⟨_, h2, h3⟩ := Kd.R_reads' hR
  obtain ⟨inner, hO⟩ := Kd.R_own hR
  rw [List.length_map] at h2 h3 hO ⊢
  have h4 := C_tomap h3
  rw [List.map_map] at h4
  rw [show ((fun x : PtoInsS.S86 => (x.f0, x.f1)) ∘ mkB) = id from rfl, List.map_id] at h4
  exact ⟨A', c', inner, rfl, h2, h4, hO, hb⟩
set_option maxRecDepth 100000 in
set_option maxHeartbeats 8000000 in
theorem law_EndsOf (A : Option Addr) (c : Nat) (l : List (Int × Int)) (w : World) (hr : Kd.C kI w A l.length l) (hc : l.length ≤ c) (hm : l.length ≤ 9223372036854775807) : Calls Try.prog 8 #[.slice A l.length c] w fun e w' => e = .returned (.bool true) ∧ Below w.heap.size w w' := by
  have HR := Aside0.mk hr
  have cz := fun w hr => szIns A c l 1048576 w hr hc
  clear hr
  by_cases z : leftM l.length 1048576 < 0
  · generalize leftM l.length 1048576 = q at *
    go_enter Try.func8, Try.ntmps8
    go_wp2_with (go_at_call 21; (with_reducible refine (cz _ HR.out).mono ?_); rintro e w' ⟨rfl, n, rfl⟩)
    go_ret
    exact ⟨rfl, pw_below_drewN (Below.refl _ _) _⟩
  · have hl : l.length ≤ 1048576 := by
      unfold leftM at z
      split at z
      · omega
      · rename_i h; unfold wrap64 at h; omega
    have HEl := enM_len l
    have ks := fun W A c h1 h2 => spec_Eo A c l W h1 h2 hl
    have ki := fun W A c h1 h2 => impl_Eo A c l W h1 h2 hl
    generalize leftM l.length 1048576 = q at *
    generalize enM l = r at *
    obtain ⟨E, ok⟩ := r
    simp only at HEl
    have hkm : decide ((l.length : Int) * 2 + 1 < 0) = false := decide_eq_false (by omega)
    have hkq : decide ((E.length : Int) + 1 < 0) = false := decide_eq_false (by omega)
    go_enter Try.func8, Try.ntmps8
    go_wp2_with (go_at_call 21; (with_reducible refine (cz _ HR.out).mono ?_); rintro e w' ⟨rfl, n, rfl⟩)
    have B0 : Below w.heap.size w (w.drewN n) := pw_below_drewN (Below.refl _ _) _
    generalize w.drewN n = w0 at *
    clear cz
    refine (toIns A c l _ (Kd.C_below HR.out B0) hc hl).mono ?_
    rintro e w1 ⟨A1, c1, rfl, k1, C1, B1⟩
    go_wp2_with fail
    refine (ks _ A1 c1 C1 k1).mono ?_
    rintro e w2 ⟨A2, c2, rfl, R2, B2⟩
    have B := below_step B0 (below_step B1 B2)
    have L2 := Aside0.mk (Kd.R_lt R2)
    have HR2 := Aside0.mk R2
    clear B1 B2 C1 B0 R2
    go_wp2_with fail
    refine (toInsO A c l _ (Kd.C_below HR.out B) hc hl).mono ?_
    rintro e w3 ⟨A3, c3, in3, rfl, k3, C3, O3, B3⟩
    have L3 := Aside0.mk O3.lt
    have hs23 : Aside0 (w2.heap.size ≤ w3.heap.size) := ⟨B3.size⟩
    have hs2 : Aside0 (w.heap.size ≤ w2.heap.size) := ⟨B.size⟩
    replace B := below_step B B3
    have HR2' := Aside0.mk (Kd.R_below HR2.out B3)
    have HO3 := Aside0.mk O3
    clear B3 HR2 O3
    go_wp2_with fail
    refine (ki _ A3 c3 C3 k3).mono ?_
    rintro e w4 ⟨A4, c4, rfl, R4, B4⟩
    have L4 := Aside0.mk (Kd.R_base R4)
    have hs3 : Aside0 (w.heap.size ≤ w3.heap.size) := ⟨B.size⟩
    have D3 := Aside0.mk (Kd.C_below C3 B4)
    have E2 := Aside0.mk (Kd.R_below HR2'.out B4)
    have P3 := Aside0.mk (pw_own_below HO3.out B4)
    have E4 := Aside0.mk R4
    replace B := below_step B B4
    clear B4 C3 HR2' HO3 R4
    go_wp2_with fail
    refine (eqInts A4 c4 A2 c2 E E.length rfl _ (Kd.R_reads' E4.out).2.2 (Kd.R_reads' E4.out).2.1 (Kd.R_reads' E2.out).2.2 (Kd.R_reads' E2.out).2.1 HEl).mono ?_
    rintro e w5 ⟨rfl, B5⟩
    have D3' := Aside0.mk (Kd.C_below D3.out B5)
    have E2' := Aside0.mk (Kd.R_below E2.out B5)
    have E4' := Aside0.mk (Kd.R_below E4.out B5)
    have P3' := Aside0.mk (pw_own_below P3.out B5)
    replace B := below_step B B5
    clear B5 D3 E2 E4 P3
    go_wp2_with fail
    refine (toIns A c l _ (Kd.C_below HR.out B) hc hl).mono ?_
    rintro e w6 ⟨A6, c6, rfl, k6, C6, B6⟩
    have D3 := Aside0.mk (Kd.C_below D3'.out B6)
    have E2 := Aside0.mk (Kd.R_below E2'.out B6)
    have E4 := Aside0.mk (Kd.R_below E4'.out B6)
    have P3 := Aside0.mk (pw_own_below P3'.out B6)
    replace B := below_step B B6
    clear B6 D3' E2' E4' P3'
    go_wp2_with fail
    refine (eqIns A3 c3 A6 c6 l _ D3.out k3 C6 k6 hl).mono ?_
    rintro e w7 ⟨rfl, B7⟩
    have E2' := Aside0.mk (Kd.R_below E2.out B7)
    have E4' := Aside0.mk (Kd.R_below E4.out B7)
    have P3' := Aside0.mk (pw_own_below P3.out B7)
    replace B := below_step B B7
    clear B7 D3 E2 E4 P3 C6
    go_wp2_with fail
    refine (mark_ins _ _ _ _ _ P3'.out hl).mono ?_
    rintro e w8 ⟨rfl, ⟨o8, s8⟩, B8⟩
    have E2 := Aside0.mk (R_same E2'.out (fun k hk => o8 k (fun e => by have h1 := L2.out k hk; have h2 := (L3.out k e).1; omega)))
    have E4 := Aside0.mk (R_same E4'.out (fun k hk => o8 k (fun e => by have h1 := L4.out k hk; have h2 := (L3.out k e).2; omega)))
    replace B := Below.trans B (B8.mono hs2.out)
    clear B8 o8 s8 E2' E4' P3'
    go_wp2_with fail
    refine (eqInts A4 c4 A2 c2 E E.length rfl _ (Kd.R_reads' E4.out).2.2 (Kd.R_reads' E4.out).2.1 (Kd.R_reads' E2.out).2.2 (Kd.R_reads' E2.out).2.1 HEl).mono ?_
    rintro e w9 ⟨rfl, B9⟩
    have E2' := Aside0.mk (Kd.R_below E2.out B9)
    have E4' := Aside0.mk (Kd.R_below E4.out B9)
    replace B := below_step B B9
    clear B9 E2 E4
    go_wp2_with fail
    refine (mark_ints _ _ E _ E4'.out HEl).mono ?_
    rintro e w10 ⟨rfl, M10, ⟨o10, s10⟩, B10⟩
    have E2 := Aside0.mk (R_same E2'.out (fun k hk => o10 k (fun e => by have h1 := L2.out k hk; have h2 := L4.out k e; have h3 := hs23.out; omega)))
    have M := Aside0.mk M10
    replace B := Below.trans B (B10.mono hs3.out)
    clear B10 o10 s10 E2' E4' M10
    go_wp2_with fail
    have hml := marks_len E.length
    have Q := fun {W : World} (h : dI.R 3 W w3.heap.size (fun _ => True) (.slice A4 E.length c4) (marks E.length)) => held_ints A4 c4 E.length W (by have := (Kd.R_reads' h).2.2; rwa [marks_len] at this) (by have := (Kd.R_reads' h).2.1; exact this) HEl
    refine (Q M.out).mono ?_
    rintro e w11 ⟨rfl, B11⟩
    have E2' := Aside0.mk (Kd.R_below E2.out B11)
    have M' := Aside0.mk (Kd.R_below M.out B11)
    replace B := below_step B B11
    clear B11 E2 M
    go_wp2_with fail
    refine (toIns A c l _ (Kd.C_below HR.out B) hc hl).mono ?_
    rintro e w12 ⟨A12, c12, rfl, k12, C12, B12⟩
    have E2 := Aside0.mk (Kd.R_below E2'.out B12)
    have M := Aside0.mk (Kd.R_below M'.out B12)
    replace B := below_step B B12
    clear B12 E2' M'
    go_wp2_with fail
    refine (ki _ A12 c12 C12 k12).mono ?_
    rintro e w13 ⟨A13, c13, rfl, R13, B13⟩
    have E2' := Aside0.mk (Kd.R_below E2.out B13)
    have M' := Aside0.mk (Kd.R_below M.out B13)
    have E13 := Aside0.mk R13
    replace B := below_step B B13
    clear B13 E2 M R13 C12
    go_wp2_with fail
    refine (eqInts A13 c13 A2 c2 E E.length rfl _ (Kd.R_reads' E13.out).2.2 (Kd.R_reads' E13.out).2.1 (Kd.R_reads' E2'.out).2.2 (Kd.R_reads' E2'.out).2.1 HEl).mono ?_
    rintro e w14 ⟨rfl, B14⟩
    have M := Aside0.mk (Kd.R_below M'.out B14)
    replace B := below_step B B14
    clear B14 E2' M' E13
    go_wp2_with fail
    refine (Q M.out).mono ?_
    rintro e w15 ⟨rfl, B15⟩
    replace B := below_step B B15
    go_wp2
    go_ret
    exact ⟨rfl, B⟩
end Go.Proofs.Ytfncjcnlndoelaa.OwnEndsL
