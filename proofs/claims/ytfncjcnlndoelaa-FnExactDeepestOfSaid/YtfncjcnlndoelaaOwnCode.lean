/- Code and its bytes: what both sides hold good, numbers in bytes, instructions in bytes: by printed walks of the parts. -/
import Derived.Test.YtfncjcnlndoelaaOwnKp
import Derived.Test.YtfncjcnlndoelaaOwnBytes
import Derived.Test.YtfncjcnlndoelaaPl6Goodx3
import Derived.Test.YtfncjcnlndoelaaPgoodCodex2
import Derived.Test.YtfncjcnlndoelaaPl1Ulebx1
import Derived.Test.YtfncjcnlndoelaaPl1Slebx1
import Derived.Test.YtfncjcnlndoelaaPUlebBytesx1
import Derived.Test.YtfncjcnlndoelaaPSlebBytesx1
namespace Go.Proofs.Ytfncjcnlndoelaa.OwnCode
open Go Go.RowKit Go.Proofs.YtfncjcnlndoelaaW.PrintWords Go.Proofs.YtfncjcnlndoelaaW.PrintLast Go.Proofs.YtfncjcnlndoelaaW.PrintMore Go.Proofs.Ytfncjcnlndoelaa.OwnBs Go.Proofs.Ytfncjcnlndoelaa.OwnKp
set_option linter.unusedVariables false
set_option linter.unusedSimpArgs false
section
open Pl6Good PgoodCode
theorem l1In_told (a b c : Int) : spec_l1In.f a b c = some (decide (b ≤ a ∧ a ≤ c)) := by
  unfold spec_l1In.f
  by_cases h : b ≤ a <;> simp [h]

/-! ### What an instruction has as A: both tell it alike, the program one more -/
def shapeM (op : Int) : Int := if 0 ≤ op ∧ op ≤ 180 then (spec_l6Shape.f 5 op).getD 0 else -1
theorem shape_far (k : Nat) (op : Int) (h : op < 0 ∨ 180 < op) : spec_l6Shape.f (k + 5) op = some (-1) ∧ impl_formOf.f (k + 5) op = some 0 := by
  have hb : ∀ c : Int, 0 ≤ c → c ≤ 180 → (op == c) = false := fun c h0 h1 => by simp; omega
  constructor
  · unfold spec_l6Shape.f
    iterate 13 rw [if_neg (by omega)]
    rw [hb 180 (by decide) (by decide)]
    simp only [spec_l6Shape.j0]
    iterate 3 rw [if_neg (by first | decide | omega)]
    rw [hb 4 (by decide) (by decide)]
    simp only [spec_l6Shape.j1]
    iterate 8 rw [if_neg (by first | decide | omega)]
    rw [hb 36 (by decide) (by decide)]
    simp only [spec_l6Shape.j2]
    iterate 4 rw [if_neg (by first | decide | omega)]
    rw [hb 55 (by decide) (by decide)]
    simp only [spec_l6Shape.j3]
    iterate 4 rw [if_neg (by first | decide | omega)]
    simp only [l1In_told, Option.bind_some]
    rw [decide_eq_false (by omega), decide_eq_false (by omega), decide_eq_false (by omega)]
    rfl
  · unfold impl_formOf.f
    iterate 2 rw [if_neg (by omega)]
    rw [hb 4 (by decide) (by decide)]
    simp only [impl_formOf.j0]
    iterate 8 rw [if_neg (by first | decide | omega)]
    rw [hb 36 (by decide) (by decide)]
    simp only [impl_formOf.j1]
    iterate 4 rw [if_neg (by first | decide | omega)]
    rw [hb 55 (by decide) (by decide)]
    simp only [impl_formOf.j2]
    iterate 17 rw [if_neg (by first | decide | omega)]
    rw [hb 180 (by decide) (by decide)]
    simp only [impl_formOf.j3]
    rw [if_neg (by decide)]
    rcases h with h | h
    · rw [if_neg (by omega), if_neg (by omega), if_neg (by omega)]
    · rw [if_pos (by omega), if_neg (by omega), if_pos (by omega), if_neg (by omega), if_pos (by omega), if_neg (by omega)]
theorem shape_near : ∀ v : Fin 181, spec_l6Shape.f 5 (v.val : Int) = some (shapeM (v.val : Int)) ∧ impl_formOf.f 5 (v.val : Int) = some (shapeM (v.val : Int) + 1) ∧ 0 ≤ shapeM (v.val : Int) + 1 ∧ shapeM (v.val : Int) ≤ 6 := by decide +kernel
theorem shape_told (op : Int) : Ev (fun k => spec_l6Shape.f k op) (shapeM op) ∧ Ev (fun k => impl_formOf.f k op) (shapeM op + 1) ∧ 0 ≤ shapeM op + 1 ∧ shapeM op ≤ 6 := by
  by_cases h : 0 ≤ op ∧ op ≤ 180
  · have := shape_near ⟨op.toNat, by omega⟩
    simp only [Int.toNat_of_nonneg h.1] at this
    obtain ⟨h1, h2, h3⟩ := this
    exact ⟨Ev.of (fun k => spec_l6Shape.mono op k) h1, Ev.of (fun k => impl_formOf.mono op k) h2, h3⟩
  · have e : shapeM op = -1 := by unfold shapeM; rw [if_neg h]
    rw [e]
    exact ⟨Pl.ev_const 5 fun k => (shape_far k op (by omega)).1, Pl.ev_const 5 fun k => (shape_far k op (by omega)).2, by decide, by decide⟩

/-! ### Good instructions -/
def goodI (op a : Int) : Bool :=
  if shapeM op = 0 then decide (a = 0) else if shapeM op = 1 then decide ((125 ≤ a ∧ a ≤ 127) ∨ a = 64) else if shapeM op = 2 then decide (0 ≤ a ∧ a ≤ 1000) else if shapeM op = 3 then decide (0 ≤ a ∧ a ≤ 10000)
  else if shapeM op = 4 then decide (-2147483648 ≤ a ∧ a ≤ 2147483647) else if shapeM op = 5 then true else if shapeM op = 6 then decide (0 ≤ a ∧ a ≤ 4294967295) else false
theorem beq_dec (a b : Int) : (a == b) = decide (a = b) := rfl
theorem goodI_spec (op a : Int) : Ev (fun k => spec_GoodIns.f k op a) (goodI op a) := by
  obtain ⟨h1, _, h3, h4⟩ := shape_told op
  unfold spec_GoodIns.f
  refine h1.bind ?_
  unfold goodI spec_l6Type.f
  simp only [l1In_told, Option.bind_some, beq_dec]
  generalize shapeM op = s at *
  obtain rfl | rfl | rfl | rfl | rfl | rfl | rfl | rfl : s = -1 ∨ s = 0 ∨ s = 1 ∨ s = 2 ∨ s = 3 ∨ s = 4 ∨ s = 5 ∨ s = 6 := by omega
  all_goals simp only [show ((-1 : Int) = 0) = False by decide, Int.reduceEq, if_true, if_false, eq_self, reduceIte]
  case inr.inr.inl =>
    by_cases h : 125 ≤ a ∧ a ≤ 127
    · simp only [decide_eq_true h, if_true, h, true_or, decide_true]; exact Ev.now true
    · simp only [decide_eq_false h, h, false_or, Bool.false_eq_true, if_false]; exact Ev.now _
  all_goals exact Ev.now _
theorem goodI_impl (op a : Int) : Ev (fun k => impl_GoodIns.f k op a) (goodI op a) := by
  obtain ⟨_, h1, h3, h4⟩ := shape_told op
  unfold impl_GoodIns.f
  refine h1.bind ?_
  unfold goodI impl_goodType.f
  simp only [beq_dec]
  generalize shapeM op = s at *
  obtain rfl | rfl | rfl | rfl | rfl | rfl | rfl | rfl : s = -1 ∨ s = 0 ∨ s = 1 ∨ s = 2 ∨ s = 3 ∨ s = 4 ∨ s = 5 ∨ s = 6 := by omega
  all_goals simp only [Int.reduceAdd, Int.reduceEq, if_true, if_false, eq_self, reduceIte]
  case inr.inr.inl =>
    by_cases h1 : a = 127
    · subst h1; exact Ev.now _
    · by_cases h2 : a = 126
      · subst h2; exact Ev.now _
      · by_cases h3 : a = 125
        · subst h3; exact Ev.now _
        · have e : decide ((125 ≤ a ∧ a ≤ 127) ∨ a = 64) = decide (a = 64) := by rw [decide_eq_decide]; omega
          rw [e]
          simp only [h1, h2, h3, if_false, Option.bind_some, decide_false, Bool.false_eq_true]
          exact Ev.now _
  case inr.inr.inr.inl =>
    by_cases h : a ≥ 0
    · simp only [if_pos h]; rw [show decide (0 ≤ a ∧ a ≤ 1000) = decide (a ≤ 1000) by rw [decide_eq_decide]; omega]; exact Ev.now _
    · simp only [if_neg h]; rw [decide_eq_false (by omega)]; exact Ev.now _
  case inr.inr.inr.inr.inl =>
    by_cases h : a ≥ 0
    · simp only [if_pos h]; rw [show decide (0 ≤ a ∧ a ≤ 10000) = decide (a ≤ 10000) by rw [decide_eq_decide]; omega]; exact Ev.now _
    · simp only [if_neg h]; rw [decide_eq_false (by omega)]; exact Ev.now _
  case inr.inr.inr.inr.inr.inl =>
    by_cases h : a ≥ -2147483648
    · simp only [if_pos h]; rw [show decide (-2147483648 ≤ a ∧ a ≤ 2147483647) = decide (a < 2147483648) by rw [decide_eq_decide]; omega]; exact Ev.now _
    · simp only [if_neg h]; rw [decide_eq_false (by omega)]; exact Ev.now _
  case inr.inr.inr.inr.inr.inr.inr =>
    by_cases h : a ≥ 0
    · simp only [if_pos h]; rw [show decide (0 ≤ a ∧ a ≤ 4294967295) = decide (a < 4294967296) by rw [decide_eq_decide]; omega]; exact Ev.now _
    · simp only [if_neg h]; rw [decide_eq_false (by omega)]; exact Ev.now _
  all_goals exact Ev.now _

/-- Good code. -/
def goodC (l : List (Int × Int)) : Bool := (l.all fun p => goodI p.1 p.2) && decide (l.length ≤ 200)
def mkS (p : Int × Int) : Pl6Good.S86 := ⟨p.1, p.2⟩
def mkI (p : Int × Int) : PgoodCode.S86 := ⟨p.1, p.2⟩
theorem rdS (l : List (Int × Int)) (i : Nat) (h : i < l.length) : Pl6Good.rd_T86 (l.map mkS) (i : Int) = mkS l[i] := by
  unfold Pl6Good.rd_T86
  simp [List.getD_eq_getElem?_getD, List.getElem?_eq_getElem h]
theorem rdI (l : List (Int × Int)) (i : Nat) (h : i < l.length) : PgoodCode.rd_T86 (l.map mkI) (i : Int) = mkI l[i] := by
  unfold PgoodCode.rd_T86
  simp [List.getD_eq_getElem?_getD, List.getElem?_eq_getElem h]
theorem goodC_spec (l : List (Int × Int)) (hl : l.length ≤ 1048576) : Ev (fun k => spec_l6Good.f k (l.map mkS)) (goodC l) := by
  have hm : (l.map mkS).length = l.length := List.length_map ..
  have key : ∀ (m i : Nat), i + m = l.length → Ev (fun k => spec_l6Good.l0 k (l.map mkS) (l.map mkS) (l.length : Int) (i : Int)) (((l.drop i).all fun p => goodI p.1 p.2) && decide (l.length ≤ 200)) := by
    intro m
    induction m with
    | zero =>
      intro i hi
      refine Pl.ev_const 1 fun k => ?_
      simp only [spec_l6Good.l0]
      rw [if_neg (by omega), List.drop_of_length_le (by omega), hm]
      simp
      omega
    | succ m ih =>
      intro i hi
      have hil : i < l.length := by omega
      have hn := ih (i + 1) (by omega)
      rw [List.drop_eq_getElem_cons hil, List.all_cons]
      have hg := goodI_spec l[i].1 l[i].2
      have step : Ev (fun k => (spec_GoodIns.f k l[i].1 l[i].2).bind fun t => if t = true then spec_l6Good.l0 k (l.map mkS) (l.map mkS) (l.length : Int) ((i + 1 : Nat) : Int) else some false) (goodI l[i].1 l[i].2 && ((l.drop (i + 1)).all fun p => goodI p.1 p.2) && decide (l.length ≤ 200)) := by
        refine hg.bind ?_
        cases h : goodI l[i].1 l[i].2 with
        | true => simp only [if_true, Bool.true_and]; exact hn
        | false => simp only [Bool.false_eq_true, if_false, Bool.false_and]; exact Ev.now _
      refine Pl.ev_skip 1 (fun k => ?_) step
      simp only [spec_l6Good.l0]
      rw [if_pos (by omega), if_pos (by omega), if_pos (by omega), rdS l i hil, Pl.w64s i l.length (by omega) (by omega)]
      rfl
  have := key l.length 0 (by omega)
  unfold spec_l6Good.f goodC
  rw [hm]
  simpa using this
theorem goodC_impl (l : List (Int × Int)) (hl : l.length ≤ 1048576) : Ev (fun k => impl_goodCode.f k (l.map mkI)) (goodC l) := by
  have hm : (l.map mkI).length = l.length := List.length_map ..
  have key : ∀ (m i : Nat), i + m = l.length → Ev (fun k => impl_goodCode.l0 k (l.map mkI) (l.length : Int) (i : Int)) ((l.drop i).all fun p => goodI p.1 p.2) := by
    intro m
    induction m with
    | zero =>
      intro i hi
      refine Pl.ev_const 1 fun k => ?_
      simp only [impl_goodCode.l0]
      rw [if_neg (by omega), List.drop_of_length_le (by omega)]
      simp
    | succ m ih =>
      intro i hi
      have hil : i < l.length := by omega
      have hn := ih (i + 1) (by omega)
      rw [List.drop_eq_getElem_cons hil, List.all_cons]
      have hg := goodI_impl l[i].1 l[i].2
      have step : Ev (fun k => (impl_GoodIns.f k l[i].1 l[i].2).bind fun t => if t = true then impl_goodCode.l0 k (l.map mkI) (l.length : Int) ((i + 1 : Nat) : Int) else some false) (goodI l[i].1 l[i].2 && ((l.drop (i + 1)).all fun p => goodI p.1 p.2)) := by
        refine hg.bind ?_
        cases h : goodI l[i].1 l[i].2 with
        | true => simp only [if_true, Bool.true_and]; exact hn
        | false => simp only [Bool.false_eq_true, if_false, Bool.false_and]; exact Ev.now _
      refine Pl.ev_skip 1 (fun k => ?_) step
      simp only [impl_goodCode.l0]
      rw [if_pos (by omega), if_pos (by omega), if_pos (by omega), rdI l i hil, Pl.w64s i l.length (by omega) (by omega)]
      rfl
  have := key l.length 0 (by omega)
  unfold impl_goodCode.f goodC
  rw [hm]
  by_cases h : (l.length : Int) > 200
  · simp only [if_pos h]
    rw [decide_eq_false (show ¬ l.length ≤ 200 by omega), Bool.and_false]
    exact Ev.now false
  · simp only [if_neg h]
    rw [decide_eq_true (show l.length ≤ 200 by omega), Bool.and_true]
    simpa using this
theorem good_s (A : Option Addr) (c : Nat) (l : List (Int × Int)) (w : World) (hr : Kd.C kI w A l.length l) (hc : l.length ≤ c) (hl : l.length ≤ 1048576) : Calls Try.prog 60 #[.slice A l.length c] w fun e w' => e = .returned (.bool (goodC l)) ∧ Below w.heap.size w w' := by
  obtain ⟨k, hk⟩ := (goodC_spec l hl).rounds
  have h1 : Kd.C Pl6Good.k86 w A (l.map mkS).length (l.map mkS) := by rw [List.length_map]; exact C_ofmap (fun _ => rfl) hr
  have := spec_l6Good.calls k A c (l.map mkS) _ w h1 (by rw [List.length_map]; exact hc) hk
  rwa [List.length_map] at this
theorem good_i (A : Option Addr) (c : Nat) (l : List (Int × Int)) (w : World) (hr : Kd.C kI w A l.length l) (hc : l.length ≤ c) (hl : l.length ≤ 1048576) : Calls Try.prog 62 #[.slice A l.length c] w fun e w' => e = .returned (.bool (goodC l)) ∧ Below w.heap.size w w' := by
  obtain ⟨k, hk⟩ := (goodC_impl l hl).rounds
  have h1 : Kd.C PgoodCode.k86 w A (l.map mkI).length (l.map mkI) := by rw [List.length_map]; exact C_ofmap (fun _ => rfl) hr
  have := impl_goodCode.calls k A c (l.map mkI) _ w h1 (by rw [List.length_map]; exact hc) hk
  rwa [List.length_map] at this
theorem shape_s (op : Int) (w : World) : Calls Try.prog 85 #[.int .i64 op] w fun e w' => e = .returned (.int .i64 (shapeM op)) ∧ ∃ n, w' = w.drewN n := by
  obtain ⟨k, hk⟩ := (shape_told op).1.rounds
  exact (spec_l6Shape.calls k op _ w hk).mono fun e w' h => ⟨h.1, h.2.out⟩
theorem form_i (op : Int) (w : World) : Calls Try.prog 63 #[.int .i64 op] w fun e w' => e = .returned (.int .i64 (shapeM op + 1)) ∧ ∃ n, w' = w.drewN n := by
  obtain ⟨k, hk⟩ := (shape_told op).2.1.rounds
  exact (impl_formOf.calls k op _ w hk).mono fun e w' h => ⟨h.1, h.2.out⟩
theorem goodC_len {l : List (Int × Int)} (h : goodC l = true) : l.length ≤ 200 := by
  unfold goodC at h
  rw [Bool.and_eq_true, decide_eq_true_eq] at h
  exact h.2
theorem goodC_at {l : List (Int × Int)} (h : goodC l = true) (i : Nat) (hi : i < l.length) : goodI l[i].1 l[i].2 = true := by
  unfold goodC at h
  rw [Bool.and_eq_true, List.all_eq_true] at h
  exact h.1 l[i] (List.getElem_mem hi)
theorem goodI_says {op a : Int} (h : goodI op a = true) : (shapeM op = 0) ∨ (shapeM op = 1 ∧ 0 ≤ a ∧ a < 256) ∨ (shapeM op = 2 ∧ 0 ≤ a ∧ a ≤ 10000) ∨ (shapeM op = 3 ∧ 0 ≤ a ∧ a ≤ 10000) ∨ shapeM op = 4 ∨ shapeM op = 5 ∨ (shapeM op = 6 ∧ 0 ≤ a ∧ a < 4294967296) := by
  unfold goodI at h
  split at h
  · exact .inl ‹_›
  · split at h
    · rw [decide_eq_true_eq] at h; right; left; exact ⟨‹_›, by omega, by omega⟩
    · split at h
      · rw [decide_eq_true_eq] at h; right; right; left; exact ⟨‹_›, by omega, by omega⟩
      · split at h
        · rw [decide_eq_true_eq] at h; right; right; right; left; exact ⟨‹_›, by omega, by omega⟩
        · split at h
          · right; right; right; right; left; assumption
          · split at h
            · right; right; right; right; right; left; assumption
            · split at h
              · rw [decide_eq_true_eq] at h; right; right; right; right; right; right; exact ⟨‹_›, by omega, by omega⟩
              · cases h
theorem shape_op {op a : Int} (h : goodI op a = true) : 0 ≤ op ∧ op ≤ 180 := by
  by_cases ho : 0 ≤ op ∧ op ≤ 180
  · exact ho
  · have e : shapeM op = -1 := by unfold shapeM; rw [if_neg ho]
    rcases goodI_says h with h | ⟨h, _⟩ | ⟨h, _⟩ | ⟨h, _⟩ | h | h | ⟨h, _⟩ <;> omega
end
/-! ### Numbers in bytes -/
section
open Pl1Uleb PUlebBytes
/-! ### Numbers in bytes: both loops are one, and they end -/
theorem uleb_byte (x : Int) (h0 : 0 ≤ x) : (bits .or .u64 (bits .and .u64 x 127) 128) % 256 = bits .or .u8 (x % 256) 128 := by
  rw [Pl.and127 .u64 (by decide), Pl.or_u8_128 (x % 256) (by omega) (by omega), Pl.or_join_u64 7 (x % 128) 128 (by omega) (by omega) (by omega) (by decide) (by omega) (by decide)]
  omega
theorem uleb_same : ∀ (k : Nat) (x : Int) (acc : List Int), 0 ≤ x → spec_l1Uleb.l0 k x acc = impl_UlebBytes.l0 k x acc
  | 0, _, _, _ => rfl
  | k + 1, x, acc, h0 => by
    simp only [spec_l1Uleb.l0, impl_UlebBytes.l0]
    by_cases h : x > 127
    · rw [if_pos h, if_pos (show x ≥ 128 by omega), uleb_byte x h0, uleb_same k _ _ (by omega)]
    · rw [if_neg h, if_neg (show ¬ x ≥ 128 by omega)]
theorem uleb_ends : ∀ (m : Nat) (x : Int) (acc : List Int), 0 ≤ x → x < 128 ^ (m + 1) → acc.length + m < 140737488355328 →
    ∃ r : ByteArray, (∀ k, m < k → spec_l1Uleb.l0 k x acc = some r) ∧ r.size ≤ acc.length + m + 1
  | 0, x, acc, h0, h1, hl => by
    refine ⟨strOfNums (acc ++ [x % 256]), fun k hk => ?_, by rw [Pl.strOfNums_size]; simp only [List.length_append, List.length_singleton]; omega⟩
    obtain ⟨k, rfl⟩ : ∃ j, k = j + 1 := ⟨k - 1, by omega⟩
    simp only [spec_l1Uleb.l0]
    rw [if_neg (by omega), if_pos (by omega)]
  | m + 1, x, acc, h0, h1, hl => by
    by_cases h : x > 127
    · obtain ⟨r, hr, hs⟩ := uleb_ends m (x / 128) (acc ++ [(bits .or .u64 (bits .and .u64 x 127) 128) % 256]) (by omega) (by
        rw [Int.pow_succ] at h1; exact Int.ediv_lt_of_lt_mul (by decide) (by omega)) (by simp; omega)
      refine ⟨r, fun k hk => ?_, by simp at hs; omega⟩
      obtain ⟨k, rfl⟩ : ∃ j, k = j + 1 := ⟨k - 1, by omega⟩
      simp only [spec_l1Uleb.l0]
      rw [if_pos h, if_pos (by omega)]
      exact hr k (by omega)
    · refine ⟨strOfNums (acc ++ [x % 256]), fun k hk => ?_, by rw [Pl.strOfNums_size]; simp only [List.length_append, List.length_singleton]; omega⟩
      obtain ⟨k, rfl⟩ : ∃ j, k = j + 1 := ⟨k - 1, by omega⟩
      simp only [spec_l1Uleb.l0]
      rw [if_neg h, if_pos (by omega)]
/-- What both come to. -/
theorem uleb_told (x : Int) (h0 : 0 ≤ x) (h1 : x < 18446744073709551616) : ∃ r : ByteArray, r.size ≤ 10 ∧ Ev (fun k => spec_l1Uleb.f k x) r ∧ Ev (fun k => impl_UlebBytes.f k x) r := by
  obtain ⟨r, hr, hs⟩ := uleb_ends 9 x [] h0 (by omega) (by simp)
  refine ⟨r, by simpa using hs, ⟨10, fun k hk => hr k (by omega)⟩, ⟨10, fun k hk => ?_⟩⟩
  show impl_UlebBytes.l0 k x [] = some r
  rw [← uleb_same k x [] h0]
  exact hr k (by omega)

def ulebS (x : Int) : ByteArray := (spec_l1Uleb.f 11 x).getD ⟨#[]⟩
theorem ulebS_told (x : Int) (h0 : 0 ≤ x) (h1 : x < 18446744073709551616) : (ulebS x).size ≤ 10 ∧ Ev (fun k => spec_l1Uleb.f k x) (ulebS x) ∧ Ev (fun k => impl_UlebBytes.f k x) (ulebS x) := by
  obtain ⟨r, hr, hs⟩ := uleb_ends 9 x [] h0 (by omega) (by simp)
  have e : ulebS x = r := by unfold ulebS; rw [show spec_l1Uleb.f 11 x = some r from hr 11 (by omega)]; rfl
  rw [e]
  refine ⟨by simpa using hs, ⟨10, fun k hk => hr k (by omega)⟩, ⟨10, fun k hk => ?_⟩⟩
  show impl_UlebBytes.l0 k x [] = some r
  rw [← uleb_same k x [] h0]
  exact hr k (by omega)
theorem uleb_s (x : Int) (h0 : 0 ≤ x) (h1 : x < 18446744073709551616) (w : World) : Calls Try.prog 86 #[.int .u64 x] w fun e w' => e = .returned (.string (ulebS x)) ∧ Below w.heap.size w w' := by
  obtain ⟨k, hk⟩ := (ulebS_told x h0 h1).2.1.rounds
  exact spec_l1Uleb.calls k x _ w hk
theorem uleb_i (x : Int) (h0 : 0 ≤ x) (h1 : x < 18446744073709551616) (w : World) : Calls Try.prog 64 #[.int .u64 x] w fun e w' => e = .returned (.string (ulebS x)) ∧ Below w.heap.size w w' := by
  obtain ⟨k, hk⟩ := (ulebS_told x h0 h1).2.2.rounds
  exact impl_UlebBytes.calls k x _ w hk
end
section
open Pl1Sleb PSlebBytes
/-! ### Signed numbers in bytes: both loops are one text, and they end -/
theorem sleb_same : ∀ (k : Nat) (x : Int) (acc : List Int), spec_l1Sleb.l0 k x acc = impl_SlebBytes.l0 k x acc
  | 0, _, _ => rfl
  | k + 1, x, acc => by
    simp only [spec_l1Sleb.l0, impl_SlebBytes.l0, sleb_same k]
theorem sleb_low (x : Int) : bits .and .u8 ((bits .and .i64 x 127) % 256) 64 = 0 ↔ x % 128 < 64 := by
  have key : ∀ v : Fin 128, bits .and .u8 (v.val : Int) 64 = 0 ↔ (v.val : Int) < 64 := by decide +kernel
  have h := key ⟨(x % 128).toNat, by omega⟩
  rw [Pl.and127 .i64 (by decide), show x % 128 % 256 = x % 128 by omega]
  simp only [Int.toNat_of_nonneg (show 0 ≤ x % 128 by omega)] at h
  exact h
theorem sleb_ends : ∀ (m : Nat) (x : Int) (acc : List Int), - (64 * 128 ^ m) ≤ x → x < 64 * 128 ^ m → acc.length + m < 140737488355328 →
    ∃ r : ByteArray, (∀ k, m < k → spec_l1Sleb.l0 k x acc = some r) ∧ r.size ≤ acc.length + m + 1
  | 0, x, acc, h0, h1, hl => by
    refine ⟨strOfNums (acc ++ [(bits .and .i64 x 127) % 256]), fun k hk => ?_, by rw [Pl.strOfNums_size]; simp only [List.length_append, List.length_singleton]; omega⟩
    obtain ⟨k, rfl⟩ : ∃ j, k = j + 1 := ⟨k - 1, by omega⟩
    simp only [spec_l1Sleb.l0, sleb_low]
    by_cases hx : 0 ≤ x
    · rw [if_pos (by omega), if_pos (by omega), if_pos (by omega)]
    · rw [if_neg (by omega), if_pos (by omega), if_neg (by omega), if_pos (by omega)]
  | m + 1, x, acc, h0, h1, hl => by
    have hd : - (64 * 128 ^ m) ≤ x / 128 ∧ x / 128 < 64 * 128 ^ m := by
      rw [Int.pow_succ] at h0 h1
      omega
    obtain ⟨r, hr, hs⟩ := sleb_ends m (x / 128) (acc ++ [bits .or .u8 ((bits .and .i64 x 127) % 256) 128]) hd.1 hd.2 (by simp only [List.length_append, List.length_singleton]; omega)
    simp only [List.length_append, List.length_singleton] at hs
    by_cases c1 : x / 128 = 0
    · by_cases c2 : x % 128 < 64
      · refine ⟨strOfNums (acc ++ [(bits .and .i64 x 127) % 256]), fun k hk => ?_, by rw [Pl.strOfNums_size]; simp only [List.length_append, List.length_singleton]; omega⟩
        obtain ⟨k, rfl⟩ : ∃ j, k = j + 1 := ⟨k - 1, by omega⟩
        simp only [spec_l1Sleb.l0, sleb_low]
        rw [if_pos c1, if_pos c2, if_pos (by omega)]
      · refine ⟨r, fun k hk => ?_, by omega⟩
        obtain ⟨k, rfl⟩ : ∃ j, k = j + 1 := ⟨k - 1, by omega⟩
        simp only [spec_l1Sleb.l0, sleb_low]
        rw [if_pos c1, if_neg c2, if_neg (by omega), if_pos (by omega)]
        exact hr k (by omega)
    · by_cases c3 : x / 128 = -1
      · by_cases c2 : x % 128 < 64
        · refine ⟨r, fun k hk => ?_, by omega⟩
          obtain ⟨k, rfl⟩ : ∃ j, k = j + 1 := ⟨k - 1, by omega⟩
          simp only [spec_l1Sleb.l0, sleb_low]
          rw [if_neg c1, if_pos c3, if_pos c2, if_pos (by omega)]
          exact hr k (by omega)
        · refine ⟨strOfNums (acc ++ [(bits .and .i64 x 127) % 256]), fun k hk => ?_, by rw [Pl.strOfNums_size]; simp only [List.length_append, List.length_singleton]; omega⟩
          obtain ⟨k, rfl⟩ : ∃ j, k = j + 1 := ⟨k - 1, by omega⟩
          simp only [spec_l1Sleb.l0, sleb_low]
          rw [if_neg c1, if_pos c3, if_neg c2, if_pos (by omega)]
      · refine ⟨r, fun k hk => ?_, by omega⟩
        obtain ⟨k, rfl⟩ : ∃ j, k = j + 1 := ⟨k - 1, by omega⟩
        simp only [spec_l1Sleb.l0, sleb_low]
        rw [if_neg c1, if_neg c3, if_pos (by omega)]
        exact hr k (by omega)
theorem sleb_told (x : Int) (h0 : -9223372036854775808 ≤ x) (h1 : x < 9223372036854775808) : ∃ r : ByteArray, r.size ≤ 10 ∧ Ev (fun k => spec_l1Sleb.f k x) r ∧ Ev (fun k => impl_SlebBytes.f k x) r := by
  obtain ⟨r, hr, hs⟩ := sleb_ends 9 x [] (by omega) (by omega) (by simp)
  refine ⟨r, by simpa using hs, ⟨10, fun k hk => hr k (by omega)⟩, ⟨10, fun k hk => ?_⟩⟩
  show impl_SlebBytes.l0 k x [] = some r
  rw [← sleb_same k x []]
  exact hr k (by omega)

def slebS (x : Int) : ByteArray := (spec_l1Sleb.f 11 x).getD ⟨#[]⟩
theorem slebS_told (x : Int) (h0 : -9223372036854775808 ≤ x) (h1 : x < 9223372036854775808) : (slebS x).size ≤ 10 ∧ Ev (fun k => spec_l1Sleb.f k x) (slebS x) ∧ Ev (fun k => impl_SlebBytes.f k x) (slebS x) := by
  obtain ⟨r, hr, hs⟩ := sleb_ends 9 x [] (by omega) (by omega) (by simp)
  have e : slebS x = r := by unfold slebS; rw [show spec_l1Sleb.f 11 x = some r from hr 11 (by omega)]; rfl
  rw [e]
  refine ⟨by simpa using hs, ⟨10, fun k hk => hr k (by omega)⟩, ⟨10, fun k hk => ?_⟩⟩
  show impl_SlebBytes.l0 k x [] = some r
  rw [← sleb_same k x []]
  exact hr k (by omega)
theorem sleb_s (x : Int) (h0 : -9223372036854775808 ≤ x) (h1 : x < 9223372036854775808) (w : World) : Calls Try.prog 87 #[.int .i64 x] w fun e w' => e = .returned (.string (slebS x)) ∧ Below w.heap.size w w' := by
  obtain ⟨k, hk⟩ := (slebS_told x h0 h1).2.1.rounds
  exact spec_l1Sleb.calls k x _ w hk
theorem sleb_i (x : Int) (h0 : -9223372036854775808 ≤ x) (h1 : x < 9223372036854775808) (w : World) : Calls Try.prog 65 #[.int .i64 x] w fun e w' => e = .returned (.string (slebS x)) ∧ Below w.heap.size w w' := by
  obtain ⟨k, hk⟩ := (slebS_told x h0 h1).2.2.rounds
  exact impl_SlebBytes.calls k x _ w hk
end
/-! ### Instructions in bytes -/
def tailS (op a : Int) : ByteArray := if shapeM op = 1 then strOfNums [a % 256] else if shapeM op = 2 ∨ shapeM op = 3 then ulebS a else if shapeM op = 4 ∨ shapeM op = 5 then slebS a else if shapeM op = 6 then OwnBytes.bytesM a 4 else ⟨#[]⟩
def insS (op a : Int) : ByteArray := strOfNums [op % 256] ++ tailS op a
def codeS (l : List (Int × Int)) : ByteArray := l.foldl (fun s x => s ++ insS x.1 x.2) ⟨#[]⟩
theorem codeS_snoc (l : List (Int × Int)) (i : Nat) (h : i < l.length) : codeS (l.take (i + 1)) = codeS (l.take i) ++ insS l[i].1 l[i].2 := by
  unfold codeS; rw [List.take_succ_eq_append_getElem h, List.foldl_append]; rfl
theorem tailS_size {op a : Int} (h : goodI op a = true) (ha : -9223372036854775808 ≤ a ∧ a < 9223372036854775808) : (tailS op a).size ≤ 10 := by
  unfold tailS
  rcases goodI_says h with h | ⟨h, h1, h2⟩ | ⟨h, h1, h2⟩ | ⟨h, h1, h2⟩ | h | h | ⟨h, h1, h2⟩
  · rw [if_neg (by omega), if_neg (by omega), if_neg (by omega), if_neg (by omega)]; exact Nat.zero_le _
  · rw [if_pos h, Pl.strOfNums_size]; simp
  · rw [if_neg (by omega), if_pos (by omega)]; exact (ulebS_told a h1 (by omega)).1
  · rw [if_neg (by omega), if_pos (by omega)]; exact (ulebS_told a h1 (by omega)).1
  · rw [if_neg (by omega), if_neg (by omega), if_pos (by omega)]; exact (slebS_told a ha.1 ha.2).1
  · rw [if_neg (by omega), if_neg (by omega), if_pos (by omega)]; exact (slebS_told a ha.1 ha.2).1
  · rw [if_neg (by omega), if_neg (by omega), if_neg (by omega), if_pos (by omega)]; unfold OwnBytes.bytesM; rw [Pl.strOfNums_size, OwnBytes.bytesAt_len]; omega
end Go.Proofs.Ytfncjcnlndoelaa.OwnCode
