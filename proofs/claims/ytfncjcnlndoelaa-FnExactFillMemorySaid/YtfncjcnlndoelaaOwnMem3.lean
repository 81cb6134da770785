/- Memories that are filled: walks of our own, the readers by printed walks, strings.Repeat by the shelf's contract. -/
import Derived.Test.YtfncjcnlndoelaaOwnKp
import Derived.Test.YtfncjcnlndoelaaShelf
import Derived.Test.YtfncjcnlndoelaaPorZerox1
import Derived.Test.YtfncjcnlndoelaaPGoodMemoryx1
import Derived.Test.YtfncjcnlndoelaaPeqMemoryx1
import Derived.Test.YtfncjcnlndoelaaPtoMemoryx1
import Derived.Test.YtfncjcnlndoelaaPszMemoryx1
import Derived.Test.YtfncjcnlndoelaaPl5Insidex1
import Derived.Test.YtfncjcnlndoelaaPwithinx1
import Derived.BigRegion
namespace Go.Proofs.Ytfncjcnlndoelaa.OwnMem3
open Go Go.RowKit Go.Proofs.YtfncjcnlndoelaaW.PrintWords Go.Proofs.YtfncjcnlndoelaaW.PrintLast Go.Proofs.YtfncjcnlndoelaaW.PrintMore Go.Proofs.Ytfncjcnlndoelaa.OwnBs
open Go.Proofs.Ytfncjcnlndoelaa.PGoodMemory Go.Proofs.Ytfncjcnlndoelaa.PorZero Go.Proofs.Ytfncjcnlndoelaa.Pl5Inside Go.Proofs.Ytfncjcnlndoelaa.Pwithin Go.Proofs.Ytfncjcnlndoelaa.OwnKp
set_option linter.unusedVariables false
set_option linter.unusedSimpArgs false
theorem l1In_told (a b c : Int) : spec_l1In.f a b c = some (decide (b ≤ a ∧ a ≤ c)) := by
  unfold spec_l1In.f
  by_cases h : b ≤ a <;> simp [h]

/-! ### Good memories -/
def goodM (a : Int) (s : ByteArray) : Bool := decide (0 ≤ a ∧ a ≤ 8 ∧ (s.size : Int) % 256 = 0 ∧ (s.size : Int) ≤ a * 256)
theorem goodM_spec (a : Int) (s : ByteArray) : spec_GoodMemory.f a s = some (goodM a s) := by
  unfold spec_GoodMemory.f goodM
  simp only [l1In_told, Option.bind_some]
  by_cases h1 : 0 ≤ a ∧ a ≤ 8
  · rw [decide_eq_true h1, if_pos rfl, Pl.w64 (by omega) (by omega)]
    by_cases h2 : (s.size : Int) % 256 = 0
    · rw [if_pos h2]; simp only [Option.some.injEq, decide_eq_decide]; omega
    · rw [if_neg h2, decide_eq_false (by omega)]
  · rw [decide_eq_false h1, if_neg (by decide), decide_eq_false (by omega)]
theorem goodM_impl (a : Int) (s : ByteArray) : impl_GoodMemory.f a s = some (goodM a s) := by
  unfold impl_GoodMemory.f goodM
  by_cases h0 : a ≥ 0
  · by_cases h1 : a ≤ 8
    · rw [if_pos h0, if_pos h1, Pl.w64 (by omega) (by omega)]
      by_cases h2 : (s.size : Int) % 256 = 0
      · rw [if_pos h2]; simp only [Option.some.injEq, decide_eq_decide]; omega
      · rw [if_neg h2, decide_eq_false (by omega)]
    · rw [if_pos h0, if_neg h1, decide_eq_false (by omega)]
  · rw [if_neg h0, decide_eq_false (by omega)]

theorem good_s (mx : Int) (d : ByteArray) (w : World) : Calls Try.prog 48 #[.agg #[.int .i64 mx, .string d]] w fun e w' => e = .returned (.bool (goodM mx d)) ∧ Below w.heap.size w w' := spec_GoodMemory.calls _ _ _ w (goodM_spec mx d)
theorem good_i (mx : Int) (d : ByteArray) (w : World) : Calls Try.prog 51 #[.agg #[.int .i64 mx, .string d]] w fun e w' => e = .returned (.bool (goodM mx d)) ∧ Below w.heap.size w w' := impl_GoodMemory.calls _ _ _ w (goodM_impl mx d)
theorem in_l1 (a b c : Int) (w : World) : Calls Try.prog 34 #[.int .i64 a, .int .i64 b, .int .i64 c] w fun e w' => e = .returned (.bool (decide (b ≤ a ∧ a ≤ c))) ∧ Below w.heap.size w w' := (spec_l1In.calls _ _ _ _ w (l1In_told a b c)).mono fun e w' h => ⟨h.1, h.2.below⟩
def orzM (mx : Int) (d : ByteArray) : Int × ByteArray := if goodM mx d then (mx, d) else (0, ⟨#[]⟩)
theorem orz (mx : Int) (d : ByteArray) (w : World) : Calls Try.prog 52 #[.agg #[.int .i64 mx, .string d]] w fun e w' => e = .returned (.agg #[.int .i64 (orzM mx d).1, .string (orzM mx d).2]) ∧ Below w.heap.size w w' := impl_orZero.calls _ _ _ _ w (by
  unfold impl_orZero.f orzM; rw [goodM_impl, Option.bind_some]
  by_cases h : goodM mx d = true
  · rw [if_pos h, if_pos h]
  · rw [if_neg h, if_neg h])
theorem eqm (mx : Int) (d : ByteArray) (w : World) : Calls Try.prog 20 #[.agg #[.int .i64 mx, .string d], .agg #[.int .i64 mx, .string d]] w fun e w' => e = .returned (.bool true) ∧ Below w.heap.size w w' := PeqMemory.laws_eqMemory.calls _ _ _ _ _ w (by
  unfold PeqMemory.laws_eqMemory.f; simp)
theorem tom (mx : Int) (d : ByteArray) (w : World) : Calls Try.prog 18 #[.agg #[.int .i64 mx, .string d]] w fun e w' => e = .returned (.agg #[.int .i64 mx, .string d]) ∧ Below w.heap.size w w' := PtoMemory.laws_toMemory.calls _ _ _ _ w rfl
theorem szm (mx : Int) (d : ByteArray) (n : Int) (w : World) : Calls Try.prog 16 #[.agg #[.int .i64 mx, .string d], .int .i64 n] w fun e w' => e = .returned (.int .i64 (if wrap64 (n - (d.size : Int)) < 0 then -1 else wrap64 (n - (d.size : Int)))) ∧ Below w.heap.size w w' := PszMemory.laws_szMemory.calls _ _ _ _ w (by unfold PszMemory.laws_szMemory.f; split <;> rfl)
theorem goodM_size {mx : Int} {d : ByteArray} (h : goodM mx d = true) : 0 ≤ mx ∧ mx ≤ 8 ∧ d.size ≤ 2048 := by
  unfold goodM at h; simp only [decide_eq_true_eq] at h; omega
def inM (d : ByteArray) (at_ n : Int) : Bool := decide (at_ ≤ (d.size : Int) ∧ n ≤ (d.size : Int) - at_)
theorem inM_spec (mx : Int) (d : ByteArray) (at_ n : Int) (h0 : 0 ≤ at_) (h1 : d.size ≤ 9223372036854775807) : spec_l5Inside.f mx d at_ n = some (inM d at_ n) := by
  unfold spec_l5Inside.f inM
  by_cases h : at_ ≤ (d.size : Int)
  · rw [if_pos h, Pl.w64 (by omega) (by omega)]; simp only [Option.some.injEq, decide_eq_decide]; omega
  · rw [if_neg h, decide_eq_false (by omega)]
theorem inM_impl (mx : Int) (d : ByteArray) (at_ n : Int) (h0 : 0 ≤ at_) (h1 : d.size ≤ 9223372036854775807) : impl_Memory_within.f mx d at_ n = some (inM d at_ n) := by
  unfold impl_Memory_within.f inM
  by_cases h : at_ ≤ (d.size : Int)
  · rw [if_pos h, Pl.w64 (by omega) (by omega)]; simp only [Option.some.injEq, decide_eq_decide]; omega
  · rw [if_neg h, decide_eq_false (by omega)]
theorem in_s (mx : Int) (d : ByteArray) (at_ n : Int) (w : World) (h0 : 0 ≤ at_) (h1 : d.size ≤ 9223372036854775807) : Calls Try.prog 49 #[.agg #[.int .i64 mx, .string d], .int .i64 at_, .int .i64 n] w fun e w' => e = .returned (.bool (inM d at_ n)) ∧ Below w.heap.size w w' := spec_l5Inside.calls _ _ _ _ _ w (inM_spec mx d at_ n h0 h1)
theorem in_i (mx : Int) (d : ByteArray) (at_ n : Int) (w : World) (h0 : 0 ≤ at_) (h1 : d.size ≤ 9223372036854775807) : Calls Try.prog 53 #[.agg #[.int .i64 mx, .string d], .int .i64 at_, .int .i64 n] w fun e w' => e = .returned (.bool (inM d at_ n)) ∧ Below w.heap.size w w' := impl_Memory_within.calls _ _ _ _ _ w (inM_impl mx d at_ n h0 h1)
/-! ### Storing -/
def putM (d s : ByteArray) (at_ : Nat) : ByteArray := d.extract 0 at_ ++ s ++ d.extract (at_ + s.size) d.size
set_option maxRecDepth 100000 in
set_option maxHeartbeats 1000000 in
theorem store_s (mx : Int) (d s : ByteArray) (at_ : Nat) (w : World) (h : at_ + s.size ≤ d.size) (hd : d.size ≤ 4096) : Calls Try.prog 50 #[.agg #[.int .i64 mx, .string d], .int .i64 at_, .string s] w fun e w' => e = .returned (.agg #[.int .i64 mx, .string (putM d s at_)]) ∧ Below w.heap.size w w' := by
  have h1 : (at_ : Int) ≤ (d.size : Int) := by omega
  have h2 : (at_ : Int) + (s.size : Int) ≤ (d.size : Int) := by omega
  have e1 : (d.extract 0 at_).size = at_ := by rw [ByteArray.size_extract]; omega
  have z1 : (9223372036854775807 < (d.extract 0 at_).size + s.size) = False := eq_false (by omega)
  have z2 : (9223372036854775807 < (d.extract 0 at_ ++ s).size + (d.extract (at_ + s.size) d.size).size) = False := eq_false (by rw [ByteArray.size_append, ByteArray.size_extract, ByteArray.size_extract]; omega)
  clear e1
  unfold putM
  go_enter Try.func50, Try.ntmps50
  go_wp2
  go_region
  rename_i kk
  simp only [Exit.then]
  refine kk _ _ ?_
  go_wp2
  refine bodyPost_ret (v := .agg #[.int .i64 mx, .string (d.extract 0 at_ ++ s ++ d.extract (at_ + s.size) d.size)]) (by simp [results, Try.results50, go_sem]) rfl ⟨rfl, ?_⟩
  with_reducible exact below_drew1 (below_alloc (below_alloc (Below.refl _ _) _) _)
set_option maxRecDepth 100000 in
set_option maxHeartbeats 1000000 in
theorem store_i (mx : Int) (d s : ByteArray) (at_ : Nat) (w : World) (h : at_ + s.size ≤ d.size) (hd : d.size ≤ 4096) : Calls Try.prog 54 #[.agg #[.int .i64 mx, .string d], .int .i64 at_, .string s] w fun e w' => e = .returned (.agg #[.int .i64 mx, .string (putM d s at_)]) ∧ Below w.heap.size w w' := by
  have h1 : (at_ : Int) ≤ (d.size : Int) := by omega
  have h2 : (at_ : Int) + (s.size : Int) ≤ (d.size : Int) := by omega
  have e1 : (d.extract 0 at_).size = at_ := by rw [ByteArray.size_extract]; omega
  have z1 : (9223372036854775807 < (d.extract 0 at_).size + s.size) = False := eq_false (by omega)
  have z2 : (9223372036854775807 < (d.extract 0 at_ ++ s).size + (d.extract (at_ + s.size) d.size).size) = False := eq_false (by rw [ByteArray.size_append, ByteArray.size_extract, ByteArray.size_extract]; omega)
  clear e1
  unfold putM
  go_enter Try.func54, Try.ntmps54
  go_wp2
  go_region
  rename_i kk
  simp only [Exit.then]
  refine kk _ _ ?_
  go_wp2
  refine bodyPost_ret (v := .agg #[.int .i64 mx, .string (d.extract 0 at_ ++ s ++ d.extract (at_ + s.size) d.size)]) (by simp [results, Try.results54, go_sem]) rfl ⟨rfl, ?_⟩
  with_reducible exact below_drew1 (below_alloc (below_alloc (Below.refl _ _) _) _)
theorem goodM_sz {mx : Int} {d : ByteArray} (h : goodM mx d = true) : d.size ≤ 2048 := (goodM_size h).2.2
/-- n times one byte. -/
def fillS (n : Nat) (b : Int) : ByteArray := strOfNums (List.replicate n b)
theorem fillS_size (n : Nat) (b : Int) : (fillS n b).size = n := by unfold fillS; rw [Pl.strOfNums_size, List.length_replicate]
theorem rep_fill (n : Nat) (b : Int) (hn : n ≤ 4096) (w : World) : Calls Try.prog 55 #[.string (strOfNums [b]), .int .i64 n] w fun e w' => e = .returned (.string (fillS n b)) ∧ Below w.heap.size w w' := by
  have := Try.strings_Repeat (strOfNums [b]) n w (by omega) (by rw [Pl.strOfNums_size]; simp; omega)
  have e : (⟨(Lib.repeatL (strOfNums [b]).data.toList n).toArray⟩ : ByteArray) = fillS n b := by
    unfold fillS strOfNums
    rw [show (⟨(List.map _ [b]).toArray⟩ : ByteArray).data.toList = List.replicate 1 _ from rfl, Lib.repeatL_replicate]
    simp
  rwa [e] at this
theorem lit1_drew (x : Int) (X : World) : (convert 77 9 (.slice (some ⟨X.heap.size, 0, none⟩) 1 1)).run Try.prog (X.alloc (.cells #[.int .u8 x] 5)).drew = .ok (.string (strOfNums [x])) (X.alloc (.cells #[.int .u8 x] 5)).drew :=
  own_string (P := Try.prog) Try.underlying77 Try.underlying5 Try.underlying9 (own_drew (Bs.lit (w0 := X) (Below.refl _ _) [x] (by simp)).own)
def flM (mx : Int) (d : ByteArray) (at_ b n : Int) : Int × ByteArray × Int :=
  if goodM mx d = true then (if at_ < 0 ∨ n < 0 ∨ b < 0 ∨ 255 < b then (mx, d, 1) else if inM d at_ n = true then (mx, putM d (fillS n.toNat b) at_.toNat, 0) else (mx, d, 2)) else (0, ⟨#[]⟩, 1)
abbrev stV (r : Int × ByteArray × Int) : Value := .tuple #[.agg #[.int .i64 r.1, .string r.2.1], .int .i64 r.2.2]
theorem fill_set (n i : Nat) (b : Int) (h : i < n) : (List.replicate i b ++ List.replicate (n - i) 0).set i b = List.replicate (i + 1) b ++ List.replicate (n - (i + 1)) 0 := by
  rw [List.set_append_right _ _ (by simp), List.length_replicate, Nat.sub_self, show n - i = (n - (i + 1)) + 1 by omega, List.replicate_succ, List.set_cons_zero, List.replicate_succ', List.append_assoc]
  rfl

set_option maxRecDepth 100000 in
set_option maxHeartbeats 4000000 in
theorem fill_last (mx : Int) (d : ByteArray) (at_ n : Nat) (b : Int) (w : World) (g : goodM mx d = true) (h0 : 0 ≤ b) (h1 : b ≤ 255) (h2 : at_ + n ≤ d.size) : Calls Try.prog 17 #[.agg #[.int .i64 mx, .string d], .int .i64 at_, .int .i64 b, .int .i64 n] w fun e w' => e = .returned (stV (mx, putM d (fillS n b) at_, 0)) ∧ Below w.heap.size w w' := by
  have cg := fun w => good_s mx d w
  have ci := fun w => in_l1 b 0 255 w
  have gz := goodM_sz g
  have cj := fun w => in_s mx d at_ n w (by omega) (by omega)
  have hin : inM d at_ n = true := by unfold inM; rw [decide_eq_true_eq]; omega
  have cs := fun w => store_s mx d (fillS n b) at_ w (by rw [fillS_size]; exact h2) (by omega)
  rw [g] at cg
  rw [hin] at cj
  rw [decide_eq_true (show (0 : Int) ≤ b ∧ b ≤ 255 from ⟨h0, h1⟩)] at ci
  clear g hin
  have hmk := print_make (P := Try.prog) 77 5 .u8 1 Try.underlying77 info_u8 (by decide) n (by omega)
  generalize hq : putM d (fillS n b) at_ = q at *
  clear hq
  go_enter Try.func17, Try.ntmps17
  go_wp2_with (first
    | (go_at_call 49; (with_reducible refine (cj _).mono ?_); rintro e w3 ⟨rfl, hb3⟩)
    | (go_at_call 34; (with_reducible refine (ci _).mono ?_); rintro e w2 ⟨rfl, hb2⟩; obtain ⟨hc2, hf2⟩ := bcell hb2; have hz2 : w.heap.size < w2.heap.size := (by have := hb2.size; omega))
    | (go_at_call 48; (with_reducible refine (cg _).mono ?_); rintro e w1 ⟨rfl, hb1⟩; obtain ⟨hc1, hf1⟩ := bcell hb1; have hz1 : w.heap.size < w1.heap.size := (by have := hb1.size; simp at this; omega)))
  have z1 : w.heap.size + 1 < w1.heap.size := by have := hb1.size; simp at this; omega
  have z2 : w.heap.size + 1 < w2.heap.size := by have := hb2.size; omega
  have z3 : w.heap.size + 1 < w3.heap.size := by have := hb3.size; omega
  obtain ⟨hc3, hf3⟩ := bcell hb3
  have k0 : w3.cell? ⟨w.heap.size, 0, none⟩ = some (.int .i64 mx) := by rw [hc3 _ _ (by omega), hc2 _ _ (by omega), hc1 _ _ (by simp; omega)]; go_simp
  have k1 : w3.cell? ⟨w.heap.size, 1, none⟩ = some (.string d) := by rw [hc3 _ _ (by omega), hc2 _ _ (by omega), hc1 _ _ (by simp; omega)]; go_simp
  have k2 : w3.cell? ⟨w.heap.size + 1, 0, none⟩ = some (.int .i64 0) := by rw [hc3 _ _ (by omega), hc2 _ _ (by omega), hc1 _ _ (by simp)]; go_simp
  have k3 : w3.cell? ⟨w.heap.size + 1, 1, none⟩ = some (.string ⟨#[]⟩) := by rw [hc3 _ _ (by omega), hc2 _ _ (by omega), hc1 _ _ (by simp)]; go_simp
  have f2 : w3.frozen? ⟨w.heap.size + 1, 0, none⟩ = false := by rw [hf3 _ _ (by omega), hf2 _ _ (by omega), hf1 _ _ (by simp)]; go_simp
  have f3 : w3.frozen? ⟨w.heap.size + 1, 1, none⟩ = false := by rw [hf3 _ _ (by omega), hf2 _ _ (by omega), hf1 _ _ (by simp)]; go_simp
  have B : Below w.heap.size w w3 := below_step (below_step (below_step (below_alloc (below_alloc (Below.refl _ _) _) _) hb1) hb2) hb3
  have HM := own_made w3 w3.heap.size 5 .u8 n (Nat.le_refl _) (by omega)
  have HM0 : Bs w3 (w3.alloc (.cells (madeCells #[.int .u8 0] n) 5)) (.slice (some ⟨w3.heap.size, 0, none⟩) n n) (List.replicate 0 b ++ List.replicate (n - 0) 0) := ⟨by simpa using HM, below_alloc (Below.refl _ _) _⟩
  clear HM hc1 hf1 hc2 hf2 hc3 hf3 hb1 hb2 hb3 cg ci cj hmk z1 z2 hz1 hz2
  go_loopg [38] n (fun kq v38 w' => ∃ i : Nat, i + kq = n ∧ v38 = .int .i64 i ∧ Bs w3 w' (.slice (some ⟨w3.heap.size, 0, none⟩) n n) (List.replicate i b ++ List.replicate (n - i) 0))
  case atStart => exact ⟨0, by omega, rfl, HM0⟩
  case round =>
    clear HM0
    obtain ⟨i, hi, rfl, HB⟩ := hrel
    have hlen : (List.replicate i b ++ List.replicate (n - i) (0 : Int)).length = n := by simp; omega
    have HO := HB.own
    rw [hlen] at HO
    cases gk with
    | zero =>
      obtain rfl : i = n := by omega
      have hd : decide ((i : Int) < (i : Int)) = false := decide_eq_false (by omega)
      have hcv := own_string (P := Try.prog) Try.underlying77 Try.underlying5 Try.underlying9 HO
      rw [Nat.sub_self, List.replicate_zero, List.append_nil] at hcv
      replace hcv : (convert 77 9 (.slice (some ⟨w3.heap.size, 0, none⟩) i i)).run Try.prog wr = .ok (.string (fillS i b)) wr := hcv
      obtain ⟨hc, hf⟩ := bcell HB.bel
      have r0 : wr.cell? ⟨w.heap.size, 0, none⟩ = some (.int .i64 mx) := by rw [hc _ _ (by omega)]; exact k0
      have r1 : wr.cell? ⟨w.heap.size, 1, none⟩ = some (.string d) := by rw [hc _ _ (by omega)]; exact k1
      have r2 : wr.cell? ⟨w.heap.size + 1, 0, none⟩ = some (.int .i64 0) := by rw [hc _ _ (by omega)]; exact k2
      have r3 : wr.cell? ⟨w.heap.size + 1, 1, none⟩ = some (.string ⟨#[]⟩) := by rw [hc _ _ (by omega)]; exact k3
      have g2 : wr.frozen? ⟨w.heap.size + 1, 0, none⟩ = false := by rw [hf _ _ (by omega)]; exact f2
      have g3 : wr.frozen? ⟨w.heap.size + 1, 1, none⟩ = false := by rw [hf _ _ (by omega)]; exact f3
      have zr : w.heap.size + 1 < wr.heap.size := by have := HB.bel.size; omega
      have BB := below_step B HB.bel
      clear hc hf k0 k1 k2 k3 f2 f3 HO HB B
      go_wp2_with (go_at_call 50; (with_reducible refine (cs _).mono ?_); rintro e w4 ⟨rfl, hb4⟩; have p2 : w4.cell? ⟨w.heap.size + 1, 0, none⟩ = some (.int .i64 0) := (by rw [(bcell hb4).1 _ _ zr]; exact r2); have p3 : w4.cell? ⟨w.heap.size + 1, 1, none⟩ = some (.string ⟨#[]⟩) := (by rw [(bcell hb4).1 _ _ zr]; exact r3); have s2 : w4.frozen? ⟨w.heap.size + 1, 0, none⟩ = false := (by rw [(bcell hb4).2 _ _ zr]; exact g2); have s3 : w4.frozen? ⟨w.heap.size + 1, 1, none⟩ = false := (by rw [(bcell hb4).2 _ _ zr]; exact g3); have z4 : w.heap.size + 1 < w4.heap.size := (by have := hb4.size; omega))
      refine bodyPost_ret (v := stV (mx, q, 0)) (by simp [results, Try.results17, go_sem, p2, p3, s2, s3, z4]) rfl ⟨rfl, ?_⟩
      with_reducible exact below_set (below_set (below_step BB hb4) (Nat.le_succ _)) (Nat.le_succ _)
    | succ k1' =>
      have hil : i < n := by omega
      have hd : decide ((i : Int) < (n : Int)) = true := decide_eq_true (by omega)
      obtain ⟨hx, hf⟩ := own_at HO (i : Int) (by omega) (by omega)
      have HP := own_store HO (i : Int) b
      rw [Int.toNat_natCast] at hx hf HP
      rw [fill_set n i b hil] at HP
      have q1 : (0 : Int) ≤ (i : Int) := by omega
      have q2 : (i : Int) < (n : Int) := by omega
      have hl2 : (List.replicate (i + 1) b ++ List.replicate (n - (i + 1)) (0 : Int)).length = n := by simp; omega
      go_wp2
      go_roundg k1'
      case measure => omega
      case rel => exact ⟨i + 1, by omega, by rw [Int.natCast_add]; rfl, ⟨by rw [hl2]; exact HP.1, below_set HB.bel (Nat.le_refl _)⟩⟩
set_option maxRecDepth 100000 in
set_option maxHeartbeats 4000000 in
theorem fill_s (mx : Int) (d : ByteArray) (at_ b n : Int) (w : World) : Calls Try.prog 17 #[.agg #[.int .i64 mx, .string d], .int .i64 at_, .int .i64 b, .int .i64 n] w fun e w' => e = .returned (stV (flM mx d at_ b n)) ∧ Below w.heap.size w w' := by
  have cg := fun w => good_s mx d w
  have ci := fun w => in_l1 b 0 255 w
  unfold flM
  by_cases g : goodM mx d = true
  · rw [if_pos g]
    have gz := goodM_sz g
    by_cases h : at_ < 0 ∨ n < 0 ∨ b < 0 ∨ 255 < b
    · rw [if_pos h]
      rw [g] at cg
      clear g
      by_cases h0 : at_ < 0
      · skip
        go_enter Try.func17, Try.ntmps17
        go_wp2_with (first
          | (go_at_call 48; (fail_if_success (have _ := hb1)); (with_reducible refine (cg _).mono ?_); rintro e w1 ⟨rfl, hb1⟩; obtain ⟨hc1, hf1⟩ := bcell hb1; have hz1_0_0 : w.heap.size < w1.heap.size := (by have := hb1.size; first | omega | (simp at this; omega)); have hz1_0_1 : w.heap.size + 1 < w1.heap.size := (by have := hb1.size; first | omega | (simp at this; omega))))
        refine bodyPost_ret (v := stV (mx, d, 1)) (by simp [results, Try.results17, go_sem, hc1, hf1, hz1_0_0, hz1_0_1]) rfl ⟨rfl, ?_⟩
        repeat (first | (with_reducible exact Below.refl _ _) | (with_reducible refine below_alloc ?_ _) | (with_reducible refine below_drew1 ?_) | (with_reducible refine pw_below_drewN ?_ _) | (with_reducible refine below_set ?_ (by omega)) | (with_reducible refine below_step ?_ hb1))
      · by_cases h1 : n < 0
        · skip
          go_enter Try.func17, Try.ntmps17
          go_wp2_with (first
            | (go_at_call 48; (fail_if_success (have _ := hb1)); (with_reducible refine (cg _).mono ?_); rintro e w1 ⟨rfl, hb1⟩; obtain ⟨hc1, hf1⟩ := bcell hb1; have hz1_0_0 : w.heap.size < w1.heap.size := (by have := hb1.size; first | omega | (simp at this; omega)); have hz1_0_1 : w.heap.size + 1 < w1.heap.size := (by have := hb1.size; first | omega | (simp at this; omega))))
          refine bodyPost_ret (v := stV (mx, d, 1)) (by simp [results, Try.results17, go_sem, hc1, hf1, hz1_0_0, hz1_0_1]) rfl ⟨rfl, ?_⟩
          repeat (first | (with_reducible exact Below.refl _ _) | (with_reducible refine below_alloc ?_ _) | (with_reducible refine below_drew1 ?_) | (with_reducible refine pw_below_drewN ?_ _) | (with_reducible refine below_set ?_ (by omega)) | (with_reducible refine below_step ?_ hb1))
        · have h3 : ¬ (0 ≤ b ∧ b ≤ 255) := by omega
          rw [decide_eq_false h3] at ci
          clear h h3
          go_enter Try.func17, Try.ntmps17
          go_wp2_with (first
            | (go_at_call 34; (fail_if_success (have _ := hb2)); have _ := hb1; (with_reducible refine (ci _).mono ?_); rintro e w2 ⟨rfl, hb2⟩; obtain ⟨hc2, hf2⟩ := bcell hb2; have hz2_0_0 : w.heap.size < w2.heap.size := (by have := hb2.size; first | omega | (simp at this; omega)); have hz2_0_1 : w.heap.size + 1 < w2.heap.size := (by have := hb2.size; first | omega | (simp at this; omega)))
            | (go_at_call 48; (fail_if_success (have _ := hb1)); (with_reducible refine (cg _).mono ?_); rintro e w1 ⟨rfl, hb1⟩; obtain ⟨hc1, hf1⟩ := bcell hb1; have hz1_0_0 : w.heap.size < w1.heap.size := (by have := hb1.size; first | omega | (simp at this; omega)); have hz1_0_1 : w.heap.size + 1 < w1.heap.size := (by have := hb1.size; first | omega | (simp at this; omega))))
          refine bodyPost_ret (v := stV (mx, d, 1)) (by simp [results, Try.results17, go_sem, hc1, hf1, hz1_0_0, hz1_0_1, hc2, hf2, hz2_0_0, hz2_0_1]) rfl ⟨rfl, ?_⟩
          repeat (first | (with_reducible exact Below.refl _ _) | (with_reducible refine below_alloc ?_ _) | (with_reducible refine below_drew1 ?_) | (with_reducible refine pw_below_drewN ?_ _) | (with_reducible refine below_set ?_ (by omega)) | (with_reducible refine below_step ?_ hb2) | (with_reducible refine below_step ?_ hb1))
    · rw [if_neg h]
      by_cases i : inM d at_ n = true
      · rw [if_pos i]
        have i2 := i
        unfold inM at i2
        rw [decide_eq_true_eq] at i2
        obtain ⟨a, rfl⟩ : ∃ a : Nat, at_ = a := ⟨at_.toNat, by omega⟩
        obtain ⟨m, rfl⟩ : ∃ m : Nat, n = m := ⟨n.toNat, by omega⟩
        exact fill_last mx d a m b w g (by omega) (by omega) (by omega)
      · rw [if_neg i]
        have cj := fun w => in_s mx d at_ n w (by omega) (by omega)
        rw [Bool.eq_false_iff.2 i] at cj
        rw [g] at cg
        rw [decide_eq_true (show (0 : Int) ≤ b ∧ b ≤ 255 by omega)] at ci
        have h0 : 0 ≤ at_ := by omega
        have h1 : 0 ≤ n := by omega
        clear g i h
        go_enter Try.func17, Try.ntmps17
        go_wp2_with (first
          | (go_at_call 49; (fail_if_success (have _ := hb3)); have _ := hb2; (with_reducible refine (cj _).mono ?_); rintro e w3 ⟨rfl, hb3⟩; obtain ⟨hc3, hf3⟩ := bcell hb3; have hz3_0_0 : w.heap.size < w3.heap.size := (by have := hb3.size; first | omega | (simp at this; omega)); have hz3_0_1 : w.heap.size + 1 < w3.heap.size := (by have := hb3.size; first | omega | (simp at this; omega)))
          | (go_at_call 34; (fail_if_success (have _ := hb2)); have _ := hb1; (with_reducible refine (ci _).mono ?_); rintro e w2 ⟨rfl, hb2⟩; obtain ⟨hc2, hf2⟩ := bcell hb2; have hz2_0_0 : w.heap.size < w2.heap.size := (by have := hb2.size; first | omega | (simp at this; omega)); have hz2_0_1 : w.heap.size + 1 < w2.heap.size := (by have := hb2.size; first | omega | (simp at this; omega)))
          | (go_at_call 48; (fail_if_success (have _ := hb1)); (with_reducible refine (cg _).mono ?_); rintro e w1 ⟨rfl, hb1⟩; obtain ⟨hc1, hf1⟩ := bcell hb1; have hz1_0_0 : w.heap.size < w1.heap.size := (by have := hb1.size; first | omega | (simp at this; omega)); have hz1_0_1 : w.heap.size + 1 < w1.heap.size := (by have := hb1.size; first | omega | (simp at this; omega))))
        refine bodyPost_ret (v := stV (mx, d, 2)) (by simp [results, Try.results17, go_sem, hc1, hf1, hz1_0_0, hz1_0_1, hc2, hf2, hz2_0_0, hz2_0_1, hc3, hf3, hz3_0_0, hz3_0_1]) rfl ⟨rfl, ?_⟩
        repeat (first | (with_reducible exact Below.refl _ _) | (with_reducible refine below_alloc ?_ _) | (with_reducible refine below_drew1 ?_) | (with_reducible refine pw_below_drewN ?_ _) | (with_reducible refine below_set ?_ (by omega)) | (with_reducible refine below_step ?_ hb3) | (with_reducible refine below_step ?_ hb2) | (with_reducible refine below_step ?_ hb1))
  · rw [if_neg g]
    rw [Bool.eq_false_iff.2 g] at cg
    clear g
    go_enter Try.func17, Try.ntmps17
    go_wp2_with (first
      | (go_at_call 48; (fail_if_success (have _ := hb1)); (with_reducible refine (cg _).mono ?_); rintro e w1 ⟨rfl, hb1⟩; obtain ⟨hc1, hf1⟩ := bcell hb1; have hz1_0_0 : w.heap.size < w1.heap.size := (by have := hb1.size; first | omega | (simp at this; omega)); have hz1_0_1 : w.heap.size + 1 < w1.heap.size := (by have := hb1.size; first | omega | (simp at this; omega))))
    refine bodyPost_ret (v := stV (0, ⟨#[]⟩, 1)) (by simp [results, Try.results17, go_sem, hc1, hf1, hz1_0_0, hz1_0_1]) rfl ⟨rfl, ?_⟩
    repeat (first | (with_reducible exact Below.refl _ _) | (with_reducible refine below_alloc ?_ _) | (with_reducible refine below_drew1 ?_) | (with_reducible refine pw_below_drewN ?_ _) | (with_reducible refine below_set ?_ (by omega)) | (with_reducible refine below_step ?_ hb1))
set_option maxRecDepth 100000 in
set_option maxHeartbeats 4000000 in
theorem fill_i (mx : Int) (d : ByteArray) (at_ b n : Int) (w : World) : Calls Try.prog 19 #[.agg #[.int .i64 mx, .string d], .int .i64 at_, .int .i64 b, .int .i64 n] w fun e w' => e = .returned (stV (flM mx d at_ b n)) ∧ Below w.heap.size w w' := by
  have cg := fun w => good_i mx d w
  have co := fun w => orz mx d w
  unfold flM
  unfold orzM at co
  by_cases g : goodM mx d = true
  · rw [if_pos g]
    simp only [if_pos g] at co
    have gz := goodM_sz g
    rw [g] at cg
    clear g
    by_cases h : at_ < 0 ∨ n < 0 ∨ b < 0 ∨ 255 < b
    · rw [if_pos h]
      by_cases h0 : at_ < 0
      · skip
        go_enter Try.func19, Try.ntmps19
        go_wp2_with (first
          | (go_at_call 52; (fail_if_success (have _ := hb2)); have _ := hb1; (with_reducible refine (co _).mono ?_); rintro e w2 ⟨rfl, hb2⟩; obtain ⟨hc2, hf2⟩ := bcell hb2; have hz2_0_0 : w.heap.size < w2.heap.size := (by have := hb2.size; first | omega | (simp at this; omega)); have hz2_0_1 : w.heap.size + 1 < w2.heap.size := (by have := hb2.size; first | omega | (simp at this; omega)))
          | (go_at_call 51; (fail_if_success (have _ := hb1)); (with_reducible refine (cg _).mono ?_); rintro e w1 ⟨rfl, hb1⟩; obtain ⟨hc1, hf1⟩ := bcell hb1; have hz1_0_0 : w.heap.size < w1.heap.size := (by have := hb1.size; first | omega | (simp at this; omega)); have hz1_0_1 : w.heap.size + 1 < w1.heap.size := (by have := hb1.size; first | omega | (simp at this; omega))))
        refine bodyPost_ret (v := stV (mx, d, 1)) (by simp [results, Try.results19, go_sem, hc1, hf1, hz1_0_0, hz1_0_1, hc2, hf2, hz2_0_0, hz2_0_1]) rfl ⟨rfl, ?_⟩
        repeat (first | (with_reducible exact Below.refl _ _) | (with_reducible refine below_alloc ?_ _) | (with_reducible refine below_drew1 ?_) | (with_reducible refine pw_below_drewN ?_ _) | (with_reducible refine below_set ?_ (by omega)) | (with_reducible refine below_step ?_ hb2) | (with_reducible refine below_step ?_ hb1))
      · by_cases h1 : n < 0
        · skip
          go_enter Try.func19, Try.ntmps19
          go_wp2_with (first
            | (go_at_call 52; (fail_if_success (have _ := hb2)); have _ := hb1; (with_reducible refine (co _).mono ?_); rintro e w2 ⟨rfl, hb2⟩; obtain ⟨hc2, hf2⟩ := bcell hb2; have hz2_0_0 : w.heap.size < w2.heap.size := (by have := hb2.size; first | omega | (simp at this; omega)); have hz2_0_1 : w.heap.size + 1 < w2.heap.size := (by have := hb2.size; first | omega | (simp at this; omega)))
            | (go_at_call 51; (fail_if_success (have _ := hb1)); (with_reducible refine (cg _).mono ?_); rintro e w1 ⟨rfl, hb1⟩; obtain ⟨hc1, hf1⟩ := bcell hb1; have hz1_0_0 : w.heap.size < w1.heap.size := (by have := hb1.size; first | omega | (simp at this; omega)); have hz1_0_1 : w.heap.size + 1 < w1.heap.size := (by have := hb1.size; first | omega | (simp at this; omega))))
          refine bodyPost_ret (v := stV (mx, d, 1)) (by simp [results, Try.results19, go_sem, hc1, hf1, hz1_0_0, hz1_0_1, hc2, hf2, hz2_0_0, hz2_0_1]) rfl ⟨rfl, ?_⟩
          repeat (first | (with_reducible exact Below.refl _ _) | (with_reducible refine below_alloc ?_ _) | (with_reducible refine below_drew1 ?_) | (with_reducible refine pw_below_drewN ?_ _) | (with_reducible refine below_set ?_ (by omega)) | (with_reducible refine below_step ?_ hb2) | (with_reducible refine below_step ?_ hb1))
        · by_cases h2 : b < 0
          · skip
            go_enter Try.func19, Try.ntmps19
            go_wp2_with (first
              | (go_at_call 52; (fail_if_success (have _ := hb2)); have _ := hb1; (with_reducible refine (co _).mono ?_); rintro e w2 ⟨rfl, hb2⟩; obtain ⟨hc2, hf2⟩ := bcell hb2; have hz2_0_0 : w.heap.size < w2.heap.size := (by have := hb2.size; first | omega | (simp at this; omega)); have hz2_0_1 : w.heap.size + 1 < w2.heap.size := (by have := hb2.size; first | omega | (simp at this; omega)))
              | (go_at_call 51; (fail_if_success (have _ := hb1)); (with_reducible refine (cg _).mono ?_); rintro e w1 ⟨rfl, hb1⟩; obtain ⟨hc1, hf1⟩ := bcell hb1; have hz1_0_0 : w.heap.size < w1.heap.size := (by have := hb1.size; first | omega | (simp at this; omega)); have hz1_0_1 : w.heap.size + 1 < w1.heap.size := (by have := hb1.size; first | omega | (simp at this; omega))))
            refine bodyPost_ret (v := stV (mx, d, 1)) (by simp [results, Try.results19, go_sem, hc1, hf1, hz1_0_0, hz1_0_1, hc2, hf2, hz2_0_0, hz2_0_1]) rfl ⟨rfl, ?_⟩
            repeat (first | (with_reducible exact Below.refl _ _) | (with_reducible refine below_alloc ?_ _) | (with_reducible refine below_drew1 ?_) | (with_reducible refine pw_below_drewN ?_ _) | (with_reducible refine below_set ?_ (by omega)) | (with_reducible refine below_step ?_ hb2) | (with_reducible refine below_step ?_ hb1))
          · have h3 : 255 < b := by omega
            clear h
            go_enter Try.func19, Try.ntmps19
            go_wp2_with (first
              | (go_at_call 52; (fail_if_success (have _ := hb2)); have _ := hb1; (with_reducible refine (co _).mono ?_); rintro e w2 ⟨rfl, hb2⟩; obtain ⟨hc2, hf2⟩ := bcell hb2; have hz2_0_0 : w.heap.size < w2.heap.size := (by have := hb2.size; first | omega | (simp at this; omega)); have hz2_0_1 : w.heap.size + 1 < w2.heap.size := (by have := hb2.size; first | omega | (simp at this; omega)))
              | (go_at_call 51; (fail_if_success (have _ := hb1)); (with_reducible refine (cg _).mono ?_); rintro e w1 ⟨rfl, hb1⟩; obtain ⟨hc1, hf1⟩ := bcell hb1; have hz1_0_0 : w.heap.size < w1.heap.size := (by have := hb1.size; first | omega | (simp at this; omega)); have hz1_0_1 : w.heap.size + 1 < w1.heap.size := (by have := hb1.size; first | omega | (simp at this; omega))))
            refine bodyPost_ret (v := stV (mx, d, 1)) (by simp [results, Try.results19, go_sem, hc1, hf1, hz1_0_0, hz1_0_1, hc2, hf2, hz2_0_0, hz2_0_1]) rfl ⟨rfl, ?_⟩
            repeat (first | (with_reducible exact Below.refl _ _) | (with_reducible refine below_alloc ?_ _) | (with_reducible refine below_drew1 ?_) | (with_reducible refine pw_below_drewN ?_ _) | (with_reducible refine below_set ?_ (by omega)) | (with_reducible refine below_step ?_ hb2) | (with_reducible refine below_step ?_ hb1))
    · rw [if_neg h]
      have g0 : 0 ≤ at_ := by omega
      have g1 : 0 ≤ n := by omega
      have g2 : 0 ≤ b := by omega
      have g3 : b ≤ 255 := by omega
      have cj := fun w => in_i mx d at_ n w (by omega) (by omega)
      by_cases i : inM d at_ n = true
      · rw [if_pos i]
        rw [i] at cj
        unfold inM at i
        rw [decide_eq_true_eq] at i
        obtain ⟨a, rfl⟩ : ∃ a : Nat, at_ = a := ⟨at_.toNat, by omega⟩
        obtain ⟨m, rfl⟩ : ∃ m : Nat, n = m := ⟨n.toNat, by omega⟩
        rw [Int.toNat_natCast, Int.toNat_natCast]
        have cr := fun w => rep_fill m b (by omega) w
        have cw := fun w => store_i mx d (fillS m b) a w (by rw [fillS_size]; omega) (by omega)
        generalize putM d (fillS m b) a = q at *
        generalize fillS m b = F at *
        clear h i co
        go_enter Try.func19, Try.ntmps19
        go_wp2_with (first
          | (go_at_call 53; (fail_if_success (have _ := hb2)); have _ := hb1; (with_reducible refine (cj _).mono ?_); rintro e w2 ⟨rfl, hb2⟩; obtain ⟨hc2, hf2⟩ := bcell hb2; have hz2_0_0 : w.heap.size < w2.heap.size := (by have := hb2.size; first | omega | (simp at this; omega)); have hz2_0_1 : w.heap.size + 1 < w2.heap.size := (by have := hb2.size; first | omega | (simp at this; omega)))
          | (go_at_call 51; (fail_if_success (have _ := hb1)); (with_reducible refine (cg _).mono ?_); rintro e w1 ⟨rfl, hb1⟩; obtain ⟨hc1, hf1⟩ := bcell hb1; have hz1_0_0 : w.heap.size < w1.heap.size := (by have := hb1.size; first | omega | (simp at this; omega)); have hz1_0_1 : w.heap.size + 1 < w1.heap.size := (by have := hb1.size; first | omega | (simp at this; omega))))
        have ew : IntKind.u8.wrap b = b := by rw [IntKind.wrap_u8]; omega
        have hl1 := lit1_str
        have hl2 := lit1_drew
        go_region_with (first
          | (go_at_call 54; (fail_if_success (have _ := hb4)); have _ := hb3; (with_reducible refine (cw _).mono ?_); rintro e w4 ⟨rfl, hb4⟩; have hc4 : ∀ b o, b < w3.heap.size → w4.cell? ⟨b, o, none⟩ = w3.cell? ⟨b, o, none⟩ := (bcell hb4).1; have hf4 : ∀ b o, b < w3.heap.size → w4.frozen? ⟨b, o, none⟩ = w3.frozen? ⟨b, o, none⟩ := (bcell hb4).2; have hz4_0_0 : w.heap.size < w4.heap.size := (by have := hb4.size; first | omega | (simp at this; omega)); have hz4_0_1 : w.heap.size + 1 < w4.heap.size := (by have := hb4.size; first | omega | (simp at this; omega)))
          | (go_at_call 55; (fail_if_success (have _ := hb3)); (with_reducible refine (cr _).mono ?_); rintro e w3 ⟨rfl, hb3⟩; have hbq3 : Below w2.heap.size w2 w3 := below_step (below_drew1 (below_alloc (Below.refl _ _) _)) hb3; have hc3 : ∀ b o, b < w2.heap.size → w3.cell? ⟨b, o, none⟩ = w2.cell? ⟨b, o, none⟩ := (bcell hbq3).1; have hf3 : ∀ b o, b < w2.heap.size → w3.frozen? ⟨b, o, none⟩ = w2.frozen? ⟨b, o, none⟩ := (bcell hbq3).2; have hz3_0_0 : w.heap.size < w3.heap.size := (by have := hb3.size; first | omega | (simp at this; omega)); have hz3_0_1 : w.heap.size + 1 < w3.heap.size := (by have := hb3.size; first | omega | (simp at this; omega))))
        all_goals
          simp only [Exit.then]
          first | (rename_i kk; refine kk _ _ ?_) | (rename_i kk _; refine kk _ _ ?_) | (rename_i kk _ _; refine kk _ _ ?_) | (rename_i kk _ _ _; refine kk _ _ ?_) | (rename_i kk _ _ _ _; refine kk _ _ ?_)
          go_wp2
          refine bodyPost_ret (v := stV (mx, q, 0)) (by simp [results, Try.results19, go_sem, hc1, hf1, hz1_0_0, hz1_0_1, hc2, hf2, hz2_0_0, hz2_0_1, hc3, hf3, hz3_0_0, hz3_0_1, hc4, hf4, hz4_0_0, hz4_0_1]) rfl ⟨rfl, ?_⟩
          repeat (first | (with_reducible exact Below.refl _ _) | (with_reducible refine below_alloc ?_ _) | (with_reducible refine below_drew1 ?_) | (with_reducible refine pw_below_drewN ?_ _) | (with_reducible refine below_set ?_ (by omega)) | (with_reducible refine below_step ?_ hb4) | (with_reducible refine below_step ?_ hb3) | (with_reducible refine below_step ?_ hb2) | (with_reducible refine below_step ?_ hb1))
      · rw [if_neg i]
        rw [Bool.eq_false_iff.2 i] at cj
        clear i h
        go_enter Try.func19, Try.ntmps19
        go_wp2_with (first
          | (go_at_call 53; (fail_if_success (have _ := hb2)); have _ := hb1; (with_reducible refine (cj _).mono ?_); rintro e w2 ⟨rfl, hb2⟩; obtain ⟨hc2, hf2⟩ := bcell hb2; have hz2_0_0 : w.heap.size < w2.heap.size := (by have := hb2.size; first | omega | (simp at this; omega)); have hz2_0_1 : w.heap.size + 1 < w2.heap.size := (by have := hb2.size; first | omega | (simp at this; omega)))
          | (go_at_call 51; (fail_if_success (have _ := hb1)); (with_reducible refine (cg _).mono ?_); rintro e w1 ⟨rfl, hb1⟩; obtain ⟨hc1, hf1⟩ := bcell hb1; have hz1_0_0 : w.heap.size < w1.heap.size := (by have := hb1.size; first | omega | (simp at this; omega)); have hz1_0_1 : w.heap.size + 1 < w1.heap.size := (by have := hb1.size; first | omega | (simp at this; omega))))
        refine bodyPost_ret (v := stV (mx, d, 2)) (by simp [results, Try.results19, go_sem, hc1, hf1, hz1_0_0, hz1_0_1, hc2, hf2, hz2_0_0, hz2_0_1]) rfl ⟨rfl, ?_⟩
        repeat (first | (with_reducible exact Below.refl _ _) | (with_reducible refine below_alloc ?_ _) | (with_reducible refine below_drew1 ?_) | (with_reducible refine pw_below_drewN ?_ _) | (with_reducible refine below_set ?_ (by omega)) | (with_reducible refine below_step ?_ hb2) | (with_reducible refine below_step ?_ hb1))
  · rw [if_neg g]
    simp only [if_neg g] at co
    rw [Bool.eq_false_iff.2 g] at cg
    clear g
    go_enter Try.func19, Try.ntmps19
    go_wp2_with (first
      | (go_at_call 52; (fail_if_success (have _ := hb2)); have _ := hb1; (with_reducible refine (co _).mono ?_); rintro e w2 ⟨rfl, hb2⟩; obtain ⟨hc2, hf2⟩ := bcell hb2; have hz2_0_0 : w.heap.size < w2.heap.size := (by have := hb2.size; first | omega | (simp at this; omega)); have hz2_0_1 : w.heap.size + 1 < w2.heap.size := (by have := hb2.size; first | omega | (simp at this; omega)))
      | (go_at_call 51; (fail_if_success (have _ := hb1)); (with_reducible refine (cg _).mono ?_); rintro e w1 ⟨rfl, hb1⟩; obtain ⟨hc1, hf1⟩ := bcell hb1; have hz1_0_0 : w.heap.size < w1.heap.size := (by have := hb1.size; first | omega | (simp at this; omega)); have hz1_0_1 : w.heap.size + 1 < w1.heap.size := (by have := hb1.size; first | omega | (simp at this; omega))))
    refine bodyPost_ret (v := stV (0, ⟨#[]⟩, 1)) (by simp [results, Try.results19, go_sem, hc1, hf1, hz1_0_0, hz1_0_1, hc2, hf2, hz2_0_0, hz2_0_1]) rfl ⟨rfl, ?_⟩
    repeat (first | (with_reducible exact Below.refl _ _) | (with_reducible refine below_alloc ?_ _) | (with_reducible refine below_drew1 ?_) | (with_reducible refine pw_below_drewN ?_ _) | (with_reducible refine below_set ?_ (by omega)) | (with_reducible refine below_step ?_ hb2) | (with_reducible refine below_step ?_ hb1))
set_option maxRecDepth 100000 in
set_option maxHeartbeats 4000000 in
theorem law_FillMemory (mx : Int) (d : ByteArray) (at_ b n : Int) (w : World) : Calls Try.prog 5 #[.agg #[.int .i64 mx, .string d], .int .i64 at_, .int .i64 b, .int .i64 n] w fun e w' => e = .returned (.bool true) ∧ Below w.heap.size w w' := by
  have cz := fun w => szm mx d 1048576 w
  by_cases z : wrap64 (1048576 - (d.size : Int)) < 0
  · simp only [if_pos z] at cz
    go_enter Try.func5, Try.ntmps5
    go_wp2_with (first
      | (go_at_call 16; (fail_if_success (have _ := hb1)); (with_reducible refine (cz _).mono ?_); rintro e w1 ⟨rfl, hb1⟩; obtain ⟨hc1, hf1⟩ := bcell hb1; have hz1_0_0 : w.heap.size < w1.heap.size := (by have := hb1.size; first | omega | (simp at this; omega))))
    refine bodyPost_ret (v := .bool true) (by simp [results, Try.results5, go_sem, hc1, hf1, hz1_0_0]) rfl ⟨rfl, ?_⟩
    repeat (first | (with_reducible exact Below.refl _ _) | (with_reducible refine below_alloc ?_ _) | (with_reducible refine below_drew1 ?_) | (with_reducible refine pw_below_drewN ?_ _) | (with_reducible refine below_set ?_ (by omega)) | (with_reducible refine below_step ?_ hb1))
  · simp only [if_neg z] at cz
    generalize wrap64 (1048576 - (d.size : Int)) = q at *
    have cs := fun w => fill_s mx d at_ b n w
    have ci := fun w => fill_i mx d at_ b n w
    generalize flM mx d at_ b n = r at *
    obtain ⟨x, y, c⟩ := r
    simp only [stV] at cs ci
    go_enter Try.func5, Try.ntmps5
    go_wp2_with (first
      | (go_at_call 20; (fail_if_success (have _ := hb6)); have _ := hb5; (with_reducible refine (eqm x y _).mono ?_); rintro e w6 ⟨rfl, hb6⟩; obtain ⟨hc6, hf6⟩ := bcell hb6; have hz6_0_0 : w.heap.size < w6.heap.size := (by have := hb6.size; first | omega | (simp at this; omega)); have hz6_3_0 : w3.heap.size < w6.heap.size := (by have := hb6.size; first | omega | (simp at this; omega)); have hz6_5_0 : w5.heap.size < w6.heap.size := (by have := hb6.size; first | omega | (simp at this; omega)))
      | (go_at_call 19; (fail_if_success (have _ := hb5)); have _ := hb4; (with_reducible refine (ci _).mono ?_); rintro e w5 ⟨rfl, hb5⟩; obtain ⟨hc5, hf5⟩ := bcell hb5; have hz5_0_0 : w.heap.size < w5.heap.size := (by have := hb5.size; first | omega | (simp at this; omega)); have hz5_3_0 : w3.heap.size < w5.heap.size := (by have := hb5.size; first | omega | (simp at this; omega)))
      | (go_at_call 18; (fail_if_success (have _ := hb4)); have _ := hb3; (with_reducible refine (tom mx d _).mono ?_); rintro e w4 ⟨rfl, hb4⟩; obtain ⟨hc4, hf4⟩ := bcell hb4; have hz4_0_0 : w.heap.size < w4.heap.size := (by have := hb4.size; first | omega | (simp at this; omega)); have hz4_3_0 : w3.heap.size < w4.heap.size := (by have := hb4.size; first | omega | (simp at this; omega)))
      | (go_at_call 17; (fail_if_success (have _ := hb3)); have _ := hb2; (with_reducible refine (cs _).mono ?_); rintro e w3 ⟨rfl, hb3⟩; obtain ⟨hc3, hf3⟩ := bcell hb3; have hz3_0_0 : w.heap.size < w3.heap.size := (by have := hb3.size; first | omega | (simp at this; omega)))
      | (go_at_call 18; (fail_if_success (have _ := hb2)); have _ := hb1; (with_reducible refine (tom mx d _).mono ?_); rintro e w2 ⟨rfl, hb2⟩; obtain ⟨hc2, hf2⟩ := bcell hb2; have hz2_0_0 : w.heap.size < w2.heap.size := (by have := hb2.size; first | omega | (simp at this; omega)))
      | (go_at_call 16; (fail_if_success (have _ := hb1)); (with_reducible refine (cz _).mono ?_); rintro e w1 ⟨rfl, hb1⟩; obtain ⟨hc1, hf1⟩ := bcell hb1; have hz1_0_0 : w.heap.size < w1.heap.size := (by have := hb1.size; first | omega | (simp at this; omega))))
    refine bodyPost_ret (v := .bool true) (by simp [results, Try.results5, go_sem, hc1, hf1, hz1_0_0, hc2, hf2, hz2_0_0, hc3, hf3, hz3_0_0, hc4, hf4, hz4_0_0, hz4_3_0, hc5, hf5, hz5_0_0, hz5_3_0, hc6, hf6, hz6_0_0, hz6_3_0, hz6_5_0]) rfl ⟨rfl, ?_⟩
    repeat (first | (with_reducible exact Below.refl _ _) | (with_reducible refine below_alloc ?_ _) | (with_reducible refine below_drew1 ?_) | (with_reducible refine pw_below_drewN ?_ _) | (with_reducible refine below_set ?_ (by omega)) | (with_reducible refine below_step ?_ hb6) | (with_reducible refine below_step ?_ hb5) | (with_reducible refine below_step ?_ hb4) | (with_reducible refine below_step ?_ hb3) | (with_reducible refine below_step ?_ hb2) | (with_reducible refine below_step ?_ hb1))

end Go.Proofs.Ytfncjcnlndoelaa.OwnMem3
