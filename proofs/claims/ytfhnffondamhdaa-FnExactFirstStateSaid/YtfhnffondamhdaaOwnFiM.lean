/- Words and states: sizes, copies, comparisons, what is good of a word and of a memory: walks of our own. States: size, copy, comparison: walks of our own. New memories, both sides: walks of our own, strings.Repeat by the shelf's contract. FirstState, the reference: walks of our own. FirstState, the program: a walk of our own. Marks that the statement writes into a copy: what they keep: walks of our own. Marks of a module and of a state, and what is held of a state's: walks of our own. FirstState: the law, by a walk of our own. -/
import Derived.Test.YtfhnffondamhdaaOwnBase
import Derived.Deep.RegionHeldLaw
import Derived.Test.YtfhnffondamhdaaShelf
namespace Go.Proofs.Ytfhnffondamhdaa.OwnWd
open Go Go.RowKit Go.Proofs.YtfhnffondamhdaaW.PrintWords Go.Proofs.YtfhnffondamhdaaW.PrintLast Go.Proofs.YtfhnffondamhdaaW.PrintMore Go.Proofs.Ytfhnffondamhdaa.OwnBs Go.Proofs.Ytfhnffondamhdaa.OwnKp Go.Proofs.Ytfhnffondamhdaa.OwnCode Go.Proofs.Ytfhnffondamhdaa.OwnSt Go.Proofs.Ytfhnffondamhdaa.OwnFn Go.Proofs.Ytfhnffondamhdaa.OwnTo Go.Proofs.Ytfhnffondamhdaa.OwnSz Go.Proofs.Ytfhnffondamhdaa.OwnFs Go.Proofs.Ytfhnffondamhdaa.OwnMd Go.Proofs.Ytfhnffondamhdaa.OwnGs
set_option linter.unusedVariables false
set_option linter.unusedSimpArgs false
abbrev kW : Kd (Int × Int) := Kd.pair (Kd.int .i64) (Kd.int .u64)

theorem at_wd {w : World} {A : Option Addr} {n : Nat} {l : List (Int × Int)} (h : Kd.C kW w A n l) (i : Nat) (hi : i < l.length) : ∃ ad, A = some ad ∧ w.cell? (ad.add (i * 2)) = some (.int .i64 l[i].1) ∧ w.cell? ⟨(ad.add (i * 2)).block, (ad.add (i * 2)).off + 1, none⟩ = some (.int .u64 l[i].2) := by
  obtain ⟨h1, h2, h3⟩ := h
  obtain ⟨ad, e, h4⟩ := h3 (by omega)
  obtain ⟨c, hc, hk, hu⟩ := h4 i l[i] (List.getElem?_eq_getElem hi)
  obtain ⟨_, _, rfl, rfl, rfl⟩ := hk
  exact ⟨ad, e, hu 0 _ rfl, by rw [← add_field ad (i * 2) 1 (by decide)]; exact hu 1 _ rfl⟩

set_option maxRecDepth 100000 in
set_option maxHeartbeats 8000000 in
theorem toWd1 (x : Int × Int) (w : World) : Calls Try.prog 80 #[.agg #[.int .i64 x.1, .int .u64 x.2]] w fun e w' => e = .returned (.agg #[.int .i64 x.1, .int .u64 x.2]) ∧ Below w.heap.size w w' := by
  go_enter Try.func80, Try.ntmps80
  go_wp2
  refine bodyPost_ret (v := .agg #[.int .i64 x.1, .int .u64 x.2]) (by simp [results, Try.results80, go_sem]) rfl ⟨rfl, ?_⟩
  with_reducible repeat first | exact Below.refl _ _ | refine below_alloc ?_ _ | refine below_drew1 ?_ | refine pw_below_drewN ?_ _ | refine below_set ?_ (by first | omega | simp)

theorem toWdM (w : World) (base : Nat) (ok : Nat → Prop) (x : Int × Int) : Kd.M kW w base ok x [.int .i64 x.1, .int .u64 x.2] := ⟨[.int .i64 x.1], [.int .u64 x.2], rfl, rfl, rfl⟩
theorem toWdO {w : World} {base : Nat} {ok : Nat → Prop} {x : Int × Int} {cs : List Value} (h : Kd.M kW w base ok x cs) : cs = [.int .i64 x.1, .int .u64 x.2] := by
  obtain ⟨_, _, rfl, rfl, rfl⟩ := h
  exact rfl
theorem toWdI : (Try.prog.info? 76).map (fun i => (i.zero, i.size, i.bytes)) = some (some (.agg #[(.int .i64 0), (.int .u64 0)]), 2, 16) := by kernel_rfl
set_option maxRecDepth 100000 in
set_option maxHeartbeats 8000000 in
theorem toWd (A : Option Addr) (c : Nat) (l : List (Int × Int)) (w : World) (hr : Kd.C kW w A l.length l) (hl : l.length ≤ 1048576) : Calls Try.prog 42 #[.slice A l.length c] w fun e w' => ∃ A' c', e = .returned (.slice A' l.length c') ∧ Kd.R kW 76 w' w.heap.size (fun _ => True) (.slice A' l.length c') l ∧ Below w.heap.size w w' := by
  have HR0 := Aside0.mk hr
  have HL := Aside0.mk hl
  have c2 : 0 ≤ (l.length : Int) := by omega
  clear hr hl
  go_enter Try.func42, Try.ntmps42
  go_wp2_with ((with_reducible refine gate_dst (N := 7) rfl ?_); refine Kd.R_make kW _ 76 rfl (N := 7) rfl 40 _ _ rfl (l.length : Int) rfl rfl Try.underlying40 (.agg #[(.int .i64 0), (.int .u64 0)]) 16 toWdI rfl (by decide) (by omega) (0, 0) (ok := fun _ => True) (okp := fun _ => True) (toWdM _ _ _ (0, 0)) (fun _ hk => hk) trivial c2 (by simp only [Int.toNat_natCast]; have := HL.out; omega) (Below.refl _ _) (Nat.le_refl _) ?_; intro v1 w1 ho hb hg hn; clear hg hn)
  have H0 : Aside0 (Kd.R kW 76 w1 w.heap.size (fun _ => True) v1 (List.replicate l.length (0, 0))) := ⟨by have := ho; simpa using this⟩
  have HB0 := Aside0.mk hb
  obtain ⟨A1, d1, e1⟩ := Kd.R_slice H0.out
  rw [List.length_replicate] at e1
  subst e1
  clear ho hb
  go_loopg [4] l.length (fun kq v4 w' => ∃ (xs : List (Int × Int)) (x4 : Int), v4 = .int .i64 x4 ∧ Aside0 (0 ≤ x4 ∧ x4 + kq = l.length) ∧ Aside0 (xs.length = l.length ∧ ∀ j : Nat, j < x4.toNat → xs[j]? = l[j]?) ∧ Aside0 (Kd.R kW 76 w' w.heap.size (fun _ => True) (.slice A1 l.length d1) xs) ∧ Aside0 (Below w.heap.size w w'))
  case atStart => exact ⟨_, 0, rfl, ⟨by omega⟩, ⟨List.length_replicate .., fun j h => absurd h (Nat.not_lt_zero _)⟩, H0, HB0⟩
  case round =>
    clear H0 HB0
    obtain ⟨xs, x4, rfl, HI, HX, HO, HB⟩ := hrel
    cases gk with
    | zero =>
      have hd : decide (x4 < (l.length : Int)) = false := decide_eq_false (by have := HI.out; omega)
      go_wp2
      go_ret
      obtain rfl : xs = l := by
        refine List.ext_getElem? fun j => ?_
        by_cases h : j < l.length
        · exact HX.out.2 j (by have := HI.out; omega)
        · rw [List.getElem?_eq_none (by have := HX.out.1; omega), List.getElem?_eq_none (by omega)]
      exact ⟨_, _, rfl, HO.out, HB.out⟩
    | succ k1 =>
      have q1 : (0 : Int) ≤ x4 := HI.out.1
      have q2 : x4 < (l.length : Int) := by have := HI.out; omega
      have hd : decide (x4 < (l.length : Int)) = true := decide_eq_true q2
      have hil : x4.toNat < l.length := by omega
      obtain ⟨ad, e1, hx0, hx1⟩ := at_wd HR0.out x4.toNat hil
      subst e1
      replace hx0 := (HB.out.cell (World.block_lt_of_cell? w _ hx0)).trans hx0
      replace hx1 := (HB.out.cell (World.block_lt_of_cell? w _ hx1)).trans hx1
      have HS := Aside0.mk (fun j (h : j < (x4 + 1).toNat)  => (show (xs.set x4.toNat l[x4.toNat])[j]? = l[j]? from by
        rw [List.getElem?_set]
        split
        · rename_i e; subst e; rw [if_pos (by have := HX.out.1; omega), List.getElem?_eq_getElem hil]
        · exact HX.out.2 j (by omega)))
      have HSl := Aside0.mk ((List.length_set ..).trans HX.out.1 : (xs.set x4.toNat l[x4.toNat]).length = l.length)
      have ew : IntKind.i64.wrap (x4 + 1) = x4 + 1 := by rw [IntKind.wrap_i64]; have := HL.out; omega
      obtain ⟨go, co, eo, gb, gl, cl, HG⟩ := Kd.R_form HO.out (by have := HX.out.1; omega)
      injection eo with ea en ec
      subst ea; subst ec
      have GB := Aside0.mk gb
      have GL := Aside0.mk gl
      clear en gl gb HG HX
      generalize l[x4.toNat] = x at *
      have cg := fun W => toWd1 x W
      go_wp2_with (go_at_call 80; (with_reducible refine (cg _).mono ?_); rintro e w2 ⟨rfl, hb2⟩; have HO2 := Aside0.mk (Kd.R_below HO.out hb2); have HB2 := Aside0.mk (below_step HB.out hb2); obtain ⟨ce, hcl, hM, hcc, hfr⟩ := Kd.R_elem HO2.out (0, 0) x4 q1 q2; obtain rfl := toWdO hM; have HP := Aside0.mk (Kd.R_seg HO2.out x4 q1 q2 (seg := [.int .i64 x.1, .int .u64 x.2]) (j := 0) hcl hcc (show 2 ≤ 2 from by decide) (x' := x) (toWdM _ _ _ x) (fun _ hk => hk)).1; have hy0 := hcc 0 _ rfl; have hf0 := hfr 0; try simp only [show Kd.sz kW = 2 from rfl, Nat.add_zero] at hy0 hf0; have hy1 := hcc 1 _ rfl; have hf1 := hfr 1; try simp only [show Kd.sz kW = 2 from rfl, Nat.add_zero] at hy1 hf1; clear hcl hcc hfr hM hb2)
      go_roundg k1
      case measure => omega
      case rel => exact ⟨_, x4 + 1, rfl, ⟨by have := HI.out; omega⟩, ⟨HSl.out, HS.out⟩, ⟨HP.out⟩, ⟨below_set (below_set (HB2.out) GB.out) GB.out⟩⟩

set_option maxRecDepth 100000 in
set_option maxHeartbeats 8000000 in
theorem szWd (A : Option Addr) (n c : Nat) (a : Int) (w : World) : Calls Try.prog 36 #[.slice A n c, .int .i64 a] w fun e w' => e = .returned (.int .i64 (leftM n a)) ∧ Below w.heap.size w w' := by
  unfold leftM
  by_cases z : wrap64 (a - n) < 0
  · have hd : decide (wrap64 (a - n) < 0) = true := decide_eq_true z
    rw [if_pos z]
    clear z
    go_enter Try.func36, Try.ntmps36
    go_wp2
    go_ret
    exact ⟨by first | rfl | (simp; done), by with_reducible repeat first | exact Below.refl _ _ | refine below_alloc ?_ _ | refine below_drew1 ?_ | refine pw_below_drewN ?_ _⟩
  · have hd : decide (wrap64 (a - n) < 0) = false := decide_eq_false z
    rw [if_neg z]
    clear z
    go_enter Try.func36, Try.ntmps36
    go_wp2
    go_ret
    exact ⟨by first | rfl | (simp; done), by with_reducible repeat first | exact Below.refl _ _ | refine below_alloc ?_ _ | refine below_drew1 ?_ | refine pw_below_drewN ?_ _⟩

set_option maxRecDepth 100000 in
set_option maxHeartbeats 8000000 in
theorem eqWd1 (x0 : Int) (x1 : Int) (w : World) : Calls Try.prog 83 #[.agg #[.int .i64 x0, .int .u64 x1], .agg #[.int .i64 x0, .int .u64 x1]] w fun e w' => e = .returned (.bool true) ∧ Below w.heap.size w w' := by
  go_enter Try.func83, Try.ntmps83
  go_wp2
  go_ret
  exact ⟨rfl, by with_reducible repeat first | exact Below.refl _ _ | refine below_alloc ?_ _ | refine below_drew1 ?_ | refine pw_below_drewN ?_ _⟩
set_option maxRecDepth 100000 in
set_option maxHeartbeats 8000000 in
theorem eqWd (A : Option Addr) (c : Nat) (A' : Option Addr) (c' : Nat) (l : List (Int × Int)) (w : World) (hr : Kd.C kW w A l.length l) (hr' : Kd.C kW w A' l.length l) (hl : l.length ≤ 1048576) : Calls Try.prog 48 #[.slice A l.length c, .slice A' l.length c'] w fun e w' => e = .returned (.bool true) ∧ Below w.heap.size w w' := by
  have HR := Aside0.mk hr
  have HR' := Aside0.mk hr'
  clear hr hr'
  go_enter Try.func48, Try.ntmps48
  go_wp2
  go_loopg [5] l.length (fun kq v5 w' => ∃ i : Nat, i + kq = l.length ∧ v5 = .int .i64 i ∧ Aside0 (Below w.heap.size w w'))
  case atStart => exact ⟨0, by omega, rfl, ⟨Below.refl _ _⟩⟩
  case round =>
    obtain ⟨i, hi, rfl, HB⟩ := hrel
    cases gk with
    | zero =>
      obtain rfl : i = l.length := by omega
      have hd : decide ((l.length : Int) < (l.length : Int)) = false := decide_eq_false (by omega)
      go_wp2
      go_ret
      exact ⟨rfl, HB.out⟩
    | succ k1 =>
      have hil : i < l.length := by omega
      have hia : (i : Int) < (l.length : Int) := by omega
      have hd : decide ((i : Int) < (l.length : Int)) = true := decide_eq_true (by omega)
      obtain ⟨ad, e1, hx0, hx1⟩ := at_wd HR.out i hil
      obtain ⟨ad', e2, hy0, hy1⟩ := at_wd HR'.out i hil
      subst e1; subst e2
      replace hx0 := (HB.out.cell (World.block_lt_of_cell? w _ hx0)).trans hx0
      replace hx1 := (HB.out.cell (World.block_lt_of_cell? w _ hx1)).trans hx1
      replace hy0 := (HB.out.cell (World.block_lt_of_cell? w _ hy0)).trans hy0
      replace hy1 := (HB.out.cell (World.block_lt_of_cell? w _ hy1)).trans hy1
      have lq0 := World.block_lt_of_cell? wr _ hx0
      have lq1 := World.block_lt_of_cell? wr _ hx1
      have lq2 := World.block_lt_of_cell? wr _ hy0
      have lq3 := World.block_lt_of_cell? wr _ hy1
      generalize l[i] = x at *
      obtain ⟨x0, x1⟩ := x
      simp only at hx0 hx1 hy0 hy1
      have cg := fun W => eqWd1 x0 x1 W
      have q1 : (0 : Int) ≤ (i : Int) := by omega
      have ew : IntKind.i64.wrap ((i : Int) + 1) = (i : Int) + 1 := by rw [IntKind.wrap_i64]; omega
      go_wp2
      go_region_held_law (fun w' => w'.cell? (ad.add (i * 2)) = some (.int .i64 x0) ∧ w'.cell? ⟨(ad.add (i * 2)).block, (ad.add (i * 2)).off + 1, none⟩ = some (.int .u64 x1) ∧ w'.cell? (ad'.add (i * 2)) = some (.int .i64 x0) ∧ w'.cell? ⟨(ad'.add (i * 2)).block, (ad'.add (i * 2)).off + 1, none⟩ = some (.int .u64 x1)) (refine ⟨?_, ?_, ?_, ?_⟩ <;> go_simp) (first | (go_at_call 83; (with_reducible refine (cg _).mono ?_); rintro e w2 ⟨rfl, hb2⟩; obtain ⟨hc2, hf2⟩ := bcell hb2; have j0 : w2.cell? (ad.add (i * 2)) = some (.int .i64 x0) := (by rw [hb2.cell (by first | exact lq0 | (simp; exact lq0))]; go_simp); have j1 : w2.cell? ⟨(ad.add (i * 2)).block, (ad.add (i * 2)).off + 1, none⟩ = some (.int .u64 x1) := (by rw [hb2.cell (by first | exact lq1 | (simp; exact lq1))]; go_simp); have j2 : w2.cell? (ad'.add (i * 2)) = some (.int .i64 x0) := (by rw [hb2.cell (by first | exact lq2 | (simp; exact lq2))]; go_simp); have j3 : w2.cell? ⟨(ad'.add (i * 2)).block, (ad'.add (i * 2)).off + 1, none⟩ = some (.int .u64 x1) := (by rw [hb2.cell (by first | exact lq3 | (simp; exact lq3))]; go_simp)))
      all_goals
        first | (rename_i kk; refine kk _ _ ?_) | (rename_i kk _; refine kk _ _ ?_) | skip
        go_wp2
        go_roundg k1
        case measure => omega
        case rel => exact ⟨i + 1, by omega, by rw [Int.natCast_add]; rfl, ⟨below_step HB.out (by with_reducible repeat first | exact Below.refl _ _ | refine below_alloc ?_ _ | refine below_drew1 ?_ | refine pw_below_drewN ?_ _ | refine below_step ?_ hb2)⟩⟩

set_option maxRecDepth 100000 in
set_option maxHeartbeats 8000000 in
theorem szMm (m : Int) (d : ByteArray) (a : Int) (w : World) : Calls Try.prog 35 #[.agg #[.int .i64 m, .string d], .int .i64 a] w fun e w' => e = .returned (.int .i64 (leftM d.size a)) ∧ Below w.heap.size w w' := by
  unfold leftM
  generalize hR : (if wrap64 (a - d.size) < 0 then (-1 : Int) else wrap64 (a - d.size)) = R
  have K : (decide (wrap64 (a - d.size) < 0) = true ∧ R = -1) ∨ (decide (wrap64 (a - d.size) < 0) = false ∧ R = wrap64 (a - d.size)) := by
    simp only [decide_eq_true_eq, decide_eq_false_iff_not]
    omega
  clear hR
  rcases K with ⟨d1, rfl⟩ | ⟨d1, rfl⟩
  all_goals
    go_enter Try.func35, Try.ntmps35
    go_wp2
    go_ret
    exact ⟨by first | rfl | (simp; done), by with_reducible repeat first | exact Below.refl _ _ | refine below_alloc ?_ _ | refine below_drew1 ?_ | refine pw_below_drewN ?_ _⟩
theorem toMm (m : Int) (d : ByteArray) (w : World) : Calls Try.prog 41 #[.agg #[.int .i64 m, .string d]] w fun e w' => e = .returned (.agg #[.int .i64 m, .string d]) ∧ Below w.heap.size w w' := by
  go_enter Try.func41, Try.ntmps41
  go_wp2
  refine bodyPost_ret (v := .agg #[.int .i64 m, .string d]) (by simp [results, Try.results41, go_sem]) rfl ⟨rfl, ?_⟩
  with_reducible repeat first | exact Below.refl _ _ | refine below_alloc ?_ _ | refine below_drew1 ?_ | refine pw_below_drewN ?_ _ | refine below_set ?_ (by first | omega | simp)
theorem eqMm (m : Int) (d : ByteArray) (w : World) : Calls Try.prog 47 #[.agg #[.int .i64 m, .string d], .agg #[.int .i64 m, .string d]] w fun e w' => e = .returned (.bool true) ∧ Below w.heap.size w w' := by
  go_enter Try.func47, Try.ntmps47
  go_wp2
  go_ret
  exact ⟨rfl, by with_reducible repeat first | exact Below.refl _ _ | refine below_alloc ?_ _ | refine below_drew1 ?_ | refine pw_below_drewN ?_ _⟩

/-- What is good of a word. -/
def wdB (g : Int × Int) : Bool := tyB g.1 && (decide (g.1 = 126) || decide (g.2 ≤ 4294967295))

set_option maxRecDepth 100000 in
set_option maxHeartbeats 8000000 in
theorem wd_i (x0 x1 : Int) (w : World) : Calls Try.prog 44 #[.agg #[.int .i64 x0, .int .u64 x1]] w fun e w' => e = .returned (.bool (wdB (x0, x1))) ∧ Below w.heap.size w w' := by
  have ct := fun W => ty_i x0 W
  generalize hR : wdB (x0, x1) = R
  have K : (tyB x0 = false ∧ R = false) ∨ (tyB x0 = true ∧ x0 = 126 ∧ R = true) ∨ (tyB x0 = true ∧ (x0 == 126) = false ∧ decide (x1 < 4294967296) = true ∧ R = true) ∨ (tyB x0 = true ∧ (x0 == 126) = false ∧ decide (x1 < 4294967296) = false ∧ R = false) := by
    subst hR
    unfold wdB
    simp only
    cases tyB x0 with
    | false => exact .inl ⟨rfl, rfl⟩
    | true =>
      by_cases h : x0 = 126
      · exact .inr (.inl ⟨rfl, h, by rw [decide_eq_true h]; rfl⟩)
      · by_cases g : x1 ≤ 4294967295
        · exact .inr (.inr (.inl ⟨rfl, beq_eq_false_iff_ne.2 h, decide_eq_true (by omega), by rw [decide_eq_true g, Bool.or_true]; rfl⟩))
        · exact .inr (.inr (.inr ⟨rfl, beq_eq_false_iff_ne.2 h, decide_eq_false (by omega), by rw [decide_eq_false h, decide_eq_false g]; rfl⟩))
  clear hR
  rcases K with ⟨d0, rfl⟩ | ⟨d0, rfl, rfl⟩ | ⟨d0, d1, d2, rfl⟩ | ⟨d0, d1, d2, rfl⟩
  all_goals
    rw [d0] at ct
    clear d0
    go_enter Try.func44, Try.ntmps44
    go_wp2_with (go_at_call 81; (with_reducible refine (ct _).mono ?_); rintro e w1 ⟨rfl, hb1⟩; obtain ⟨hc1, hf1⟩ := bcell hb1; have hz1 : w.heap.size < w1.heap.size := (by have := hb1.size; first | omega | (simp at this; omega)))
    go_ret
    exact ⟨rfl, by with_reducible repeat first | exact Below.refl _ _ | refine below_alloc ?_ _ | refine below_drew1 ?_ | refine pw_below_drewN ?_ _ | refine below_step ?_ hb1⟩

set_option maxRecDepth 100000 in
set_option maxHeartbeats 8000000 in
theorem wd_s (x0 x1 : Int) (w : World) : Calls Try.prog 37 #[.agg #[.int .i64 x0, .int .u64 x1]] w fun e w' => e = .returned (.bool (wdB (x0, x1))) ∧ Below w.heap.size w w' := by
  have ct := fun W => ty_s x0 W
  generalize hR : wdB (x0, x1) = R
  have K : (tyB x0 = false ∧ R = false) ∨ (tyB x0 = true ∧ x0 = 126 ∧ R = true) ∨ (tyB x0 = true ∧ (x0 == 126) = false ∧ decide (x1 ≤ 4294967295) = true ∧ R = true) ∨ (tyB x0 = true ∧ (x0 == 126) = false ∧ decide (x1 ≤ 4294967295) = false ∧ R = false) := by
    subst hR
    unfold wdB
    simp only
    cases tyB x0 with
    | false => exact .inl ⟨rfl, rfl⟩
    | true =>
      by_cases h : x0 = 126
      · exact .inr (.inl ⟨rfl, h, by rw [decide_eq_true h]; rfl⟩)
      · by_cases g : x1 ≤ 4294967295
        · exact .inr (.inr (.inl ⟨rfl, beq_eq_false_iff_ne.2 h, decide_eq_true (by omega), by rw [decide_eq_true g, Bool.or_true]; rfl⟩))
        · exact .inr (.inr (.inr ⟨rfl, beq_eq_false_iff_ne.2 h, decide_eq_false (by omega), by rw [decide_eq_false h, decide_eq_false g]; rfl⟩))
  clear hR
  rcases K with ⟨d0, rfl⟩ | ⟨d0, rfl, rfl⟩ | ⟨d0, d1, d2, rfl⟩ | ⟨d0, d1, d2, rfl⟩
  all_goals
    rw [d0] at ct
    clear d0
    go_enter Try.func37, Try.ntmps37
    go_wp2_with (go_at_call 72; (with_reducible refine (ct _).mono ?_); rintro e w1 ⟨rfl, hb1⟩; obtain ⟨hc1, hf1⟩ := bcell hb1; have hz1 : w.heap.size < w1.heap.size := (by have := hb1.size; first | omega | (simp at this; omega)))
    go_ret
    exact ⟨rfl, by with_reducible repeat first | exact Below.refl _ _ | refine below_alloc ?_ _ | refine below_drew1 ?_ | refine pw_below_drewN ?_ _ | refine below_step ?_ hb1⟩

/-- What is good of a memory. -/
def mmB (m : Int) (n : Nat) : Bool := decide (0 ≤ m ∧ m ≤ 8 ∧ (n : Int) % 256 = 0 ∧ (n : Int) ≤ m * 256)

set_option maxRecDepth 100000 in
set_option maxHeartbeats 8000000 in
theorem mm_i (m : Int) (d : ByteArray) (w : World) (hd : d.size ≤ 1048576) : Calls Try.prog 43 #[.agg #[.int .i64 m, .string d]] w fun e w' => e = .returned (.bool (mmB m d.size)) ∧ Below w.heap.size w w' := by
  generalize hR : mmB m d.size = R
  have ew : 0 ≤ m → m ≤ 8 → wrap64 (m * 256) = m * 256 := fun h1 h2 => Pl.w64 (by omega) (by omega)
  have K : (decide (0 ≤ m) = false ∧ R = false) ∨ (decide (0 ≤ m) = true ∧ decide (m ≤ 8) = false ∧ R = false) ∨ (decide (0 ≤ m) = true ∧ decide (m ≤ 8) = true ∧ ((d.size : Int) % 256 == 0) = false ∧ R = false) ∨ (decide (0 ≤ m) = true ∧ decide (m ≤ 8) = true ∧ (d.size : Int) % 256 = 0 ∧ R = decide ((d.size : Int) ≤ wrap64 (m * 256))) := by
    subst hR
    unfold mmB
    by_cases h1 : 0 ≤ m
    · by_cases h2 : m ≤ 8
      · by_cases h3 : (d.size : Int) % 256 = 0
        · refine .inr (.inr (.inr ⟨decide_eq_true h1, decide_eq_true h2, h3, ?_⟩))
          rw [decide_eq_decide, ew h1 h2]
          omega
        · exact .inr (.inr (.inl ⟨decide_eq_true h1, decide_eq_true h2, beq_eq_false_iff_ne.2 h3, decide_eq_false (by omega)⟩))
      · exact .inr (.inl ⟨decide_eq_true h1, decide_eq_false h2, decide_eq_false (by omega)⟩)
    · exact .inl ⟨decide_eq_false h1, decide_eq_false (by omega)⟩
  clear hR ew
  rcases K with ⟨d0, rfl⟩ | ⟨d0, d1, rfl⟩ | ⟨d0, d1, d2, rfl⟩ | ⟨d0, d1, d2, rfl⟩
  all_goals
    go_enter Try.func43, Try.ntmps43
    go_wp2
    go_ret
    exact ⟨rfl, by with_reducible repeat first | exact Below.refl _ _ | refine below_alloc ?_ _ | refine below_drew1 ?_ | refine pw_below_drewN ?_ _⟩
theorem mm_s (m : Int) (d : ByteArray) (w : World) (hd : d.size ≤ 1048576) : Calls Try.prog 38 #[.agg #[.int .i64 m, .string d]] w fun e w' => e = .returned (.bool (mmB m d.size)) ∧ Below w.heap.size w w' := by
  generalize hR : mmB m d.size = R
  have ci := fun W => in_n m 0 8 W
  have ew : 0 ≤ m → m ≤ 8 → wrap64 (m * 256) = m * 256 := fun h1 h2 => Pl.w64 (by omega) (by omega)
  have K : (decide (0 ≤ m ∧ m ≤ 8) = false ∧ R = false) ∨ (decide (0 ≤ m ∧ m ≤ 8) = true ∧ ((d.size : Int) % 256 == 0) = false ∧ R = false) ∨ (decide (0 ≤ m ∧ m ≤ 8) = true ∧ (d.size : Int) % 256 = 0 ∧ R = decide ((d.size : Int) ≤ wrap64 (m * 256))) := by
    subst hR
    unfold mmB
    by_cases h1 : 0 ≤ m ∧ m ≤ 8
    · by_cases h3 : (d.size : Int) % 256 = 0
      · refine .inr (.inr ⟨decide_eq_true h1, h3, ?_⟩)
        rw [decide_eq_decide, ew h1.1 h1.2]
        omega
      · exact .inr (.inl ⟨decide_eq_true h1, beq_eq_false_iff_ne.2 h3, decide_eq_false (by omega)⟩)
    · exact .inl ⟨decide_eq_false h1, decide_eq_false (by omega)⟩
  clear hR ew
  rcases K with ⟨d0, rfl⟩ | ⟨d0, d2, rfl⟩ | ⟨d0, d2, rfl⟩
  all_goals
    rw [d0] at ci
    clear d0
    go_enter Try.func38, Try.ntmps38
    go_wp2_with (go_at_call 73; (with_reducible refine (ci _).mono ?_); rintro e w1 ⟨rfl, n1, rfl⟩)
    go_ret
    exact ⟨rfl, by with_reducible repeat first | exact Below.refl _ _ | refine below_alloc ?_ _ | refine below_drew1 ?_ | refine pw_below_drewN ?_ _⟩

end Go.Proofs.Ytfhnffondamhdaa.OwnWd
namespace Go.Proofs.Ytfhnffondamhdaa.OwnSs
open Go Go.RowKit Go.Proofs.YtfhnffondamhdaaW.PrintWords Go.Proofs.YtfhnffondamhdaaW.PrintLast Go.Proofs.YtfhnffondamhdaaW.PrintMore Go.Proofs.Ytfhnffondamhdaa.OwnBs Go.Proofs.Ytfhnffondamhdaa.OwnKp Go.Proofs.Ytfhnffondamhdaa.OwnCode Go.Proofs.Ytfhnffondamhdaa.OwnSt Go.Proofs.Ytfhnffondamhdaa.OwnFn Go.Proofs.Ytfhnffondamhdaa.OwnTo Go.Proofs.Ytfhnffondamhdaa.OwnSz Go.Proofs.Ytfhnffondamhdaa.OwnFs Go.Proofs.Ytfhnffondamhdaa.OwnMd Go.Proofs.Ytfhnffondamhdaa.OwnGs Go.Proofs.Ytfhnffondamhdaa.OwnWd
set_option linter.unusedVariables false
set_option linter.unusedSimpArgs false
/-- A state as a value. -/
abbrev sV (m : Int) (d : ByteArray) (A : Option Addr) (n c : Nat) : Value := .agg #[.int .i64 m, .string d, .slice A n c]
/-- What a state leaves of a budget. -/
def szS (n k : Nat) (a : Int) : Int := if leftM n a < 0 then -1 else if leftM k (leftM n a) < 0 then -1 else leftM k (leftM n a)
set_option maxRecDepth 100000 in
set_option maxHeartbeats 8000000 in
theorem szSt (m : Int) (d : ByteArray) (A : Option Addr) (n c : Nat) (a : Int) (w : World) : Calls Try.prog 10 #[sV m d A n c, .int .i64 a] w fun e w' => e = .returned (.int .i64 (szS d.size n a)) ∧ Below w.heap.size w w' := by
  unfold szS
  have c1 := fun W (_ : Below w.heap.size w W) => szMm m d a W
  generalize leftM d.size a = x at *
  have c2 := fun W (_ : Below w.heap.size w W) => szWd A n c x W
  generalize leftM n x = q at *
  generalize hR : (if x < 0 then (-1 : Int) else if q < 0 then -1 else q) = R
  have K : (decide (x < 0) = true ∧ R = -1) ∨ (decide (x < 0) = false ∧ decide (q < 0) = true ∧ R = -1) ∨ (decide (x < 0) = false ∧ decide (q < 0) = false ∧ R = q) := by
    simp only [decide_eq_true_eq, decide_eq_false_iff_not]
    omega
  clear hR
  rcases K with ⟨d1, rfl⟩ | ⟨d1, d2, rfl⟩ | ⟨d1, d2, rfl⟩
  all_goals
    go_enter Try.func10, Try.ntmps10
    go_wp2_with (first | (go_at_call 36; have _ := hb1; (with_reducible refine (c2 _ (by with_reducible repeat first | exact Below.refl _ _ | refine below_alloc ?_ _ | refine below_drew1 ?_ | refine pw_below_drewN ?_ _ | refine below_step ?_ hb1)).mono ?_); rintro e w2 ⟨rfl, hb2⟩; obtain ⟨hc2, hf2⟩ := bcell hb2; have hz2_0 : w.heap.size < w2.heap.size := (by have := hb2.size; first | omega | (simp at this; omega))) | (go_at_call 35; (with_reducible refine (c1 _ (by with_reducible repeat first | exact Below.refl _ _ | refine below_alloc ?_ _ | refine below_drew1 ?_ | refine pw_below_drewN ?_ _)).mono ?_); rintro e w1 ⟨rfl, hb1⟩; obtain ⟨hc1, hf1⟩ := bcell hb1; have hz1_0 : w.heap.size < w1.heap.size := (by have := hb1.size; first | omega | (simp at this; omega))))
    first
      | (refine bodyPost_ret (v := .int .i64 (-1)) (by simp [results, Try.results10, go_sem, hc1, hf1, hz1_0]) rfl ⟨rfl, ?_⟩; (with_reducible repeat first | exact Below.refl _ _ | refine below_alloc ?_ _ | refine below_drew1 ?_ | refine pw_below_drewN ?_ _ | refine below_step ?_ hb1); done)
      | (refine bodyPost_ret (v := .int .i64 (-1)) (by simp [results, Try.results10, go_sem, hc1, hf1, hz1_0, hc2, hf2, hz2_0]) rfl ⟨rfl, ?_⟩; (with_reducible repeat first | exact Below.refl _ _ | refine below_alloc ?_ _ | refine below_drew1 ?_ | refine pw_below_drewN ?_ _ | refine below_step ?_ hb2 | refine below_step ?_ hb1); done)
      | (refine bodyPost_ret (v := .int .i64 R) (by simp [results, Try.results10, go_sem, hc1, hf1, hz1_0, hc2, hf2, hz2_0]) rfl ⟨rfl, ?_⟩; (with_reducible repeat first | exact Below.refl _ _ | refine below_alloc ?_ _ | refine below_drew1 ?_ | refine pw_below_drewN ?_ _ | refine below_step ?_ hb2 | refine below_step ?_ hb1); done)

set_option maxRecDepth 100000 in
set_option maxHeartbeats 8000000 in
theorem toSt (m : Int) (d : ByteArray) (A : Option Addr) (c : Nat) (l : List (Int × Int)) (w : World) (hr : Kd.C kW w A l.length l) (hl : l.length ≤ 1048576) : Calls Try.prog 13 #[sV m d A l.length c] w fun e w' => ∃ A' c', e = .returned (sV m d A' l.length c') ∧ Kd.C kW w' A' l.length l ∧ l.length ≤ c' ∧ Below w.heap.size w w' := by
  have c1 := fun W => toMm m d W
  have c2 := fun W (B : Below w.heap.size w W) => toWd A c l W (Kd.C_below hr B) hl
  clear hr hl
  go_enter Try.func13, Try.ntmps13
  go_wp2_with fail
  refine (c1 _).mono ?_
  rintro e w2 ⟨rfl, hb2⟩
  have e3 : ∀ (o1 o2 o3 : Obj), (((w.alloc o1).alloc o2).alloc o3).heap.size = w.heap.size + 3 := by intro o1 o2 o3; simp
  have HB2 := Aside0.mk (show Below w.heap.size w w2 from below_step (by repeat (first | (with_reducible exact Below.refl _ _) | (with_reducible refine below_alloc ?_ _) | (with_reducible refine below_drew1 ?_))) hb2)
  obtain ⟨hc2, hf2⟩ := bcell hb2
  have hz2_0 : w.heap.size < w2.heap.size := by have := hb2.size; rw [e3] at this; omega
  have hz2_1 : w.heap.size + 1 < w2.heap.size := by have := hb2.size; rw [e3] at this; omega
  have hz2_2 : w.heap.size + 1 + 1 < w2.heap.size := by have := hb2.size; rw [e3] at this; omega
  clear hb2
  go_wp2_with fail
  refine (c2 _ (by have := HB2.out; repeat (first | (with_reducible exact this) | (with_reducible refine below_set ?_ (by first | omega | simp)) | (with_reducible refine below_drew1 ?_)))).mono ?_
  rintro e w3 ⟨A3, d3, rfl, C3, hb3⟩
  have HB3 := Aside0.mk (show Below w.heap.size w w3 from below_step (by have := HB2.out; repeat (first | (with_reducible exact this) | (with_reducible refine below_set ?_ (by first | omega | simp)) | (with_reducible refine below_drew1 ?_))) hb3)
  have HC3 := Aside0.mk (Kd.R_lower (base' := w.heap.size + 3) C3 (by simp [World.setCell]; omega))
  obtain ⟨hc3, hf3⟩ := bcell hb3
  have hz3_0 : w.heap.size < w3.heap.size := by have := hb3.size; simp [World.setCell] at this; omega
  have hz3_1 : w.heap.size + 1 < w3.heap.size := by have := hb3.size; simp [World.setCell] at this; omega
  have hz3_2 : w.heap.size + 1 + 1 < w3.heap.size := by have := hb3.size; simp [World.setCell] at this; omega
  clear C3 hb3
  go_wp2
  refine bodyPost_ret (v := sV m d A3 l.length d3) (by simp [results, Try.results13, go_sem, hc2, hf2, hz2_0, hz2_1, hz2_2, hc3, hf3, hz3_0, hz3_1, hz3_2]) rfl ⟨A3, d3, rfl, (Kd.R_reads' (own_step HC3.out (fun k hk hlt => ⟨by (repeat (with_reducible refine Eq.trans (Below.heap_setCell _ _ _ _ (by dsimp only; omega)) ?_)); with_reducible rfl, by simpa [World.setCell] using hlt⟩) (Below.refl _ _))).2.2, (Kd.R_reads' HC3.out).2.1, ?_⟩
  have := HB3.out
  repeat (first | (with_reducible exact this) | (with_reducible refine below_set ?_ (by first | omega | simp)) | (with_reducible refine below_drew1 ?_))

set_option maxRecDepth 100000 in
set_option maxHeartbeats 8000000 in
theorem eqSt (m : Int) (d : ByteArray) (A : Option Addr) (c : Nat) (A' : Option Addr) (c' : Nat) (l : List (Int × Int)) (w : World) (hr : Kd.C kW w A l.length l) (hr' : Kd.C kW w A' l.length l) (hl : l.length ≤ 1048576) : Calls Try.prog 16 #[sV m d A l.length c, sV m d A' l.length c'] w fun e w' => e = .returned (.bool true) ∧ Below w.heap.size w w' := by
  have c1 := fun W (_ : Below w.heap.size w W) => eqMm m d W
  have c2 := fun W (B : Below w.heap.size w W) => eqWd A c A' c' l W (Kd.C_below hr B) (Kd.C_below hr' B) hl
  clear hr hr' hl
  go_enter Try.func16, Try.ntmps16
  go_wp2_with (first | (go_at_call 48; have _ := hb1; (with_reducible refine (c2 _ (by with_reducible repeat first | exact Below.refl _ _ | refine below_alloc ?_ _ | refine below_drew1 ?_ | refine pw_below_drewN ?_ _ | refine below_step ?_ hb1)).mono ?_); rintro e w2 ⟨rfl, hb2⟩; obtain ⟨hc2, hf2⟩ := bcell hb2; have hz2_0 : w.heap.size < w2.heap.size := (by have := hb2.size; first | omega | (simp at this; omega)); have hz2_1 : w.heap.size + 1 < w2.heap.size := (by have := hb2.size; first | omega | (simp at this; omega))) | (go_at_call 47; (with_reducible refine (c1 _ (by with_reducible repeat first | exact Below.refl _ _ | refine below_alloc ?_ _ | refine below_drew1 ?_ | refine pw_below_drewN ?_ _)).mono ?_); rintro e w1 ⟨rfl, hb1⟩; obtain ⟨hc1, hf1⟩ := bcell hb1; have hz1_0 : w.heap.size < w1.heap.size := (by have := hb1.size; first | omega | (simp at this; omega)); have hz1_1 : w.heap.size + 1 < w1.heap.size := (by have := hb1.size; first | omega | (simp at this; omega))))
  (refine bodyPost_ret (v := .bool true) (by simp [results, Try.results16, go_sem, hc1, hf1, hz1_0, hz1_1, hc2, hf2, hz2_0, hz2_1]) rfl ⟨rfl, ?_⟩; (with_reducible repeat first | exact Below.refl _ _ | refine below_alloc ?_ _ | refine below_drew1 ?_ | refine pw_below_drewN ?_ _ | refine below_step ?_ hb2 | refine below_step ?_ hb1); done)

end Go.Proofs.Ytfhnffondamhdaa.OwnSs
namespace Go.Proofs.Ytfhnffondamhdaa.OwnNm
open Go Go.RowKit Go.Proofs.YtfhnffondamhdaaW.PrintWords Go.Proofs.YtfhnffondamhdaaW.PrintLast Go.Proofs.YtfhnffondamhdaaW.PrintMore Go.Proofs.Ytfhnffondamhdaa.OwnBs Go.Proofs.Ytfhnffondamhdaa.OwnKp Go.Proofs.Ytfhnffondamhdaa.OwnCode Go.Proofs.Ytfhnffondamhdaa.OwnSt Go.Proofs.Ytfhnffondamhdaa.OwnFn Go.Proofs.Ytfhnffondamhdaa.OwnTo Go.Proofs.Ytfhnffondamhdaa.OwnSz Go.Proofs.Ytfhnffondamhdaa.OwnFs Go.Proofs.Ytfhnffondamhdaa.OwnMd Go.Proofs.Ytfhnffondamhdaa.OwnGs Go.Proofs.Ytfhnffondamhdaa.OwnWd Go.Proofs.Ytfhnffondamhdaa.OwnSs
set_option linter.unusedVariables false
set_option linter.unusedSimpArgs false
/-- A text of noughts. -/
def zeros (n : Nat) : ByteArray := strOfNums (List.replicate n 0)
theorem zeros_size (n : Nat) : (zeros n).size = n := by unfold zeros; rw [Pl.strOfNums_size, List.length_replicate]
theorem zeros_rep (n : Nat) : (⟨(Lib.repeatL (⟨#[0]⟩ : ByteArray).data.toList n).toArray⟩ : ByteArray) = zeros n := by
  unfold zeros strOfNums
  rw [show ((⟨#[0]⟩ : ByteArray).data.toList : List UInt8) = List.replicate 1 0 from rfl, Lib.repeatL_replicate]
  simp
theorem rep (n : Nat) (hn : n ≤ 4096) (w : World) : Calls Try.prog 93 #[.string ⟨#[0]⟩, .int .i64 n] w fun e w' => e = .returned (.string (zeros n)) ∧ Below w.heap.size w w' := by
  have := Try.strings_Repeat ⟨#[0]⟩ n w (by omega) (by show 1 * n ≤ _; omega)
  rwa [zeros_rep] at this
theorem made_zeros (n : Nat) (hn : n ≤ 4096) (X : World) : (convert 111 9 (.slice (some ⟨X.heap.size, 0, none⟩) n n)).run Try.prog (X.alloc (.cells (madeCells #[.int .u8 0] n) 5)) = .ok (.string (zeros n)) (X.alloc (.cells (madeCells #[.int .u8 0] n) 5)) :=
  own_string (P := Try.prog) Try.underlying111 Try.underlying5 Try.underlying9 (own_made X X.heap.size 5 .u8 n (Nat.le_refl _) (by omega))
theorem info_u8 : (Try.prog.info? 5).map (fun i => (i.zero, i.size, i.bytes)) = some (some (.int .u8 0), 1, 1) := by kernel_rfl
set_option maxRecDepth 100000 in
set_option maxHeartbeats 8000000 in
theorem new_i (n : Nat) (mx : Int) (h3 : n ≤ mx) (h1 : mx ≤ 8) (w : World) : Calls Try.prog 56 #[.int .i64 n, .int .i64 mx] w fun e w' => e = .returned (.tuple #[.agg #[.int .i64 mx, .string (zeros (n * 256))], .bool true]) ∧ Below w.heap.size w w' := by
  have cr := fun w => rep (n * 256) (by omega) w
  have ew : ((n * 256 : Nat) : Int) = (n : Int) * 256 := by omega
  have h0 : 0 ≤ mx := by omega
  have h2 : (0 : Int) ≤ n := by omega
  rw [ew] at cr
  clear ew
  generalize zeros (n * 256) = Z at *
  go_enter Try.func56, Try.ntmps56
  go_wp2_with (go_at_call 93; (with_reducible refine (cr _).mono ?_); rintro e w1 ⟨rfl, hb1⟩; obtain ⟨hc1, hf1⟩ := bcell hb1; have hz1 : w.heap.size < w1.heap.size := (by have := hb1.size; first | omega | (simp at this; omega)))
  refine bodyPost_ret (v := .tuple #[.agg #[.int .i64 mx, .string Z], .bool true]) (by simp [results, Try.results56, go_sem, hc1, hf1, hz1]) rfl ⟨rfl, ?_⟩
  with_reducible repeat first | exact Below.refl _ _ | refine below_alloc ?_ _ | refine below_drew1 ?_ | refine pw_below_drewN ?_ _ | refine below_set ?_ (by omega) | refine below_step ?_ hb1
set_option maxRecDepth 100000 in
set_option maxHeartbeats 8000000 in
theorem new_s (n : Nat) (mx : Int) (h3 : n ≤ mx) (h1 : mx ≤ 8) (w : World) : Calls Try.prog 92 #[.int .i64 n, .int .i64 mx] w fun e w' => e = .returned (.tuple #[.agg #[.int .i64 mx, .string (zeros (n * 256))], .bool true]) ∧ Below w.heap.size w w' := by
  have c1 := fun W => in_n mx 0 8 W
  have c2 := fun W => in_n n 0 mx W
  rw [decide_eq_true (by omega)] at c1 c2
  have hmk : ∀ W : World, (Instr.makeSlice 111 (.int .i64 ((n : Int) * 256)) (.int .i64 ((n : Int) * 256))).run Try.prog W = .ok (.slice (some ⟨W.heap.size, 0, none⟩) (n * 256) (n * 256)) (W.alloc (.cells (madeCells #[.int .u8 0] (n * 256)) 5)) := print_make (P := Try.prog) 111 5 .u8 1 Try.underlying111 info_u8 (by decide) (n * 256) (by omega)
  have hcv : ∀ (o : Obj) (k : Nat), (convert 111 9 (.slice (some ⟨w.heap.size + 1, 0, none⟩) (n * 256) (n * 256))).run Try.prog (((w.alloc o).drewN k).alloc (.cells (madeCells #[.int .u8 0] (n * 256)) 5)) = .ok (.string (zeros (n * 256))) (((w.alloc o).drewN k).alloc (.cells (madeCells #[.int .u8 0] (n * 256)) 5)) := fun o k => by
    have := made_zeros (n * 256) (by omega) ((w.alloc o).drewN k)
    rwa [show ((w.alloc o).drewN k).heap.size = w.heap.size + 1 by simp] at this
  have h0 : 0 ≤ mx := by omega
  have h2 : (0 : Int) ≤ n := by omega
  generalize zeros (n * 256) = Z at *
  go_enter Try.func92, Try.ntmps92
  go_wp2_with (first | (go_at_call 73; (with_reducible refine (c2 _).mono ?_); rintro e w2 ⟨rfl, n2, rfl⟩) | (go_at_call 73; (with_reducible refine (c1 _).mono ?_); rintro e w1 ⟨rfl, n1, rfl⟩))
  refine bodyPost_ret (v := .tuple #[.agg #[.int .i64 mx, .string Z], .bool true]) (by simp [results, Try.results92, go_sem]) rfl ⟨rfl, ?_⟩
  with_reducible repeat first | exact Below.refl _ _ | refine below_alloc ?_ _ | refine below_drew1 ?_ | refine pw_below_drewN ?_ _ | refine below_set ?_ (by first | omega | simp)
end Go.Proofs.Ytfhnffondamhdaa.OwnNm
namespace Go.Proofs.Ytfhnffondamhdaa.OwnFis
open Go Go.RowKit Go.Proofs.YtfhnffondamhdaaW.PrintWords Go.Proofs.YtfhnffondamhdaaW.PrintLast Go.Proofs.YtfhnffondamhdaaW.PrintMore Go.Proofs.Ytfhnffondamhdaa.OwnBs Go.Proofs.Ytfhnffondamhdaa.OwnKp Go.Proofs.Ytfhnffondamhdaa.OwnCode Go.Proofs.Ytfhnffondamhdaa.OwnSt Go.Proofs.Ytfhnffondamhdaa.OwnFn Go.Proofs.Ytfhnffondamhdaa.OwnTo Go.Proofs.Ytfhnffondamhdaa.OwnSz Go.Proofs.Ytfhnffondamhdaa.OwnFs Go.Proofs.Ytfhnffondamhdaa.OwnMd Go.Proofs.Ytfhnffondamhdaa.OwnGs Go.Proofs.Ytfhnffondamhdaa.OwnWd Go.Proofs.Ytfhnffondamhdaa.OwnSs Go.Proofs.Ytfhnffondamhdaa.OwnNm Go.Proofs.Ytfhnffondamhdaa.OwnGsS
set_option linter.unusedVariables false
set_option linter.unusedSimpArgs false
/-- What is good of a module's shape is good of its memory. -/
theorem gs_mem {F : List Rec} {G : List Glo} {mem : Bool} {pages most start : Int} (h : gsM F G mem pages most start = true) (hm : mem = true) : 0 ≤ pages ∧ pages ≤ most ∧ most ≤ 8 := by
  unfold gsM memB at h
  simp only [Bool.and_eq_true] at h
  have := h.2.2.2.2.1
  rw [if_pos hm] at this
  exact of_decide_eq_true this
/-- A global's word. -/
def gw (g : Glo) : Int × Int := (g.1, g.2.2)
/-- A first memory. -/
def fmM (mem : Bool) (pages most : Int) : Int × ByteArray := if mem = true then (most, zeros (pages * 256).toNat) else (0, ByteArray.empty)
theorem heap3 (w : World) (o1 o2 o3 : Obj) : (((w.alloc o1).alloc o2).alloc o3).heap[w.heap.size + 1 + 1]? = some o3 := by
  show (((w.heap.push o1).push o2).push o3)[w.heap.size + 1 + 1]? = some o3
  rw [Array.getElem?_push, if_pos (by simp)]
theorem heap2 (w : World) (o1 o2 o3 : Obj) : (((w.alloc o1).alloc o2).alloc o3).heap[w.heap.size + 1]? = some o2 := by
  show (((w.heap.push o1).push o2).push o3)[w.heap.size + 1]? = some o2
  rw [Array.getElem?_push, if_neg (by simp), Array.getElem?_push, if_pos (by simp)]
theorem heap1 (w : World) (o : Obj) : (w.alloc o).heap[w.heap.size]? = some o := by
  show (w.heap.push o)[w.heap.size]? = some o
  rw [Array.getElem?_push, if_pos rfl]
theorem heap2' (w : World) (o1 o2 : Obj) : ((w.alloc o1).alloc o2).heap[w.heap.size + 1]? = some o2 := by
  show ((w.heap.push o1).push o2)[w.heap.size + 1]? = some o2
  rw [Array.getElem?_push, if_pos (by simp)]
/-- What FirstState tells: a memory, the words. -/
def fsM (F : List Rec) (G : List Glo) (mem : Bool) (pages most start : Int) : Int × ByteArray × List (Int × Int) := if gsM F G mem pages most start = true then ((fmM mem pages most).1, (fmM mem pages most).2, G.map gw) else (0, ByteArray.empty, [])
theorem kWI : (Try.prog.info? 76).map (fun i => (i.zero, i.size, i.bytes)) = some (some (.agg #[(.int .i64 0), (.int .u64 0)]), 2, 16) := by kernel_rfl
section
variable {ops : Array Oper} {rest : List Oper} {o : Oper} {a : Act} {Q : Exit → Act → World → Prop}
/-- globals = append(globals, x) -/
theorem app_wd {w0 W : World} {v : Value} {xs : List (Int × Int)} (HO : Kd.R kW 76 W w0.heap.size (fun _ => True) v xs) (HB : Below w0.heap.size w0 W) (y : Int × Int) (hl : xs.length ≤ 1048576) (hgd : o.guard = none) (s x : Operand) (ho : o.op = .call { callee := .builtin .append, args := #[s, x], argTypes := #[40, 40] })
    (hs : a.eval s = v) (b : Nat) (hx : a.eval x = .slice (some ⟨b, 0, none⟩) 1 1) (hb : b = W.heap.size)
    (K : ∀ v1 w1, Kd.R kW 76 w1 w0.heap.size (fun _ => True) v1 (xs ++ [y]) → Below w0.heap.size w0 w1 → W.grownBy w1 v.ownBlock → wpList Try.prog ops Q rest (a.put o.dst v1) w1) : wpList Try.prog ops Q (o :: rest) a (W.alloc (.cells #[.int .i64 y.1, .int .u64 y.2] 76)) := by
  subst hb
  exact Kd.R_append kW (w0 := w0) w0.heap.size hgd s x 40 76 (.agg #[.int .i64 0, .int .u64 0]) 16 ho Try.underlying40 kWI rfl (by decide) (by decide) v xs y [.int .i64 y.1, .int .u64 y.2] (fun _ => True) (fun _ => False) hs hx (toWdM _ _ _ y) (fun _ hk => hk.elim) (fun _ _ => trivial) HO HB HB.size (by omega) (fun v1 w1 h1 h2 h3 _ => K v1 w1 h1 h2 h3)
end
set_option maxRecDepth 100000 in
set_option maxHeartbeats 40000000 in
theorem l8f (Af : Option Addr) (cf : Nat) (F : List Rec) (Ag : Option Addr) (cg : Nat) (G : List Glo) (mem : Bool) (pages most start : Int) (w : World) (hr : MdR w Af cf F Ag cg G) (hG : G.length ≤ 1048576) (hm : mem = true → 0 ≤ pages ∧ pages ≤ most ∧ most ≤ 8) : Calls Try.prog 55 #[mdV Af cf F Ag cg G mem pages most start] w fun e w' => ∃ A' c', e = .returned (sV (fmM mem pages most).1 (fmM mem pages most).2 A' G.length c') ∧ Kd.R kW 76 w' w.heap.size (fun _ => True) (.slice A' G.length c') (G.map gw) ∧ Below w.heap.size w w' := by
  have HR := Aside0.mk hr
  have HL := Aside0.mk hG
  clear hr hG
  have e3 : ∀ (o1 o2 o3 : Obj), (((w.alloc o1).alloc o2).alloc o3).heap.size = w.heap.size + 3 := by intro o1 o2 o3; simp
  obtain ⟨mm, hmm⟩ : ∃ x, fmM mem pages most = x := ⟨_, rfl⟩
  rw [hmm]
  obtain ⟨m, d⟩ := mm
  simp only
  have K : (mem = false ∧ m = 0 ∧ d = ByteArray.empty) ∨ (mem = true ∧ m = most ∧ ∃ n : Nat, pages = n ∧ (n : Int) ≤ most ∧ most ≤ 8 ∧ d = zeros (n * 256)) := by
    unfold fmM at hmm
    cases mem with
    | false => rw [if_neg (by decide)] at hmm; cases hmm; exact .inl ⟨rfl, rfl, rfl⟩
    | true =>
      have h := hm rfl
      rw [if_pos rfl] at hmm
      cases hmm
      exact .inr ⟨rfl, rfl, pages.toNat, by omega, by omega, h.2.2, by rw [show (pages * 256).toNat = pages.toNat * 256 by omega]⟩
  clear hm hmm
  rcases K with ⟨rfl, hmz, hdz⟩ | ⟨rfl, hmz, n, rfl, h1, h2, hdz⟩
  all_goals
    have HMZ := Aside0.mk hmz
    have HDZ := Aside0.mk hdz
    clear hmz hdz
    try have cn := fun W => new_s n most h1 h2 W
    go_enter Try.func55, Try.ntmps55
    go_wp2_with (first | (go_at_call 92; (with_reducible refine (cn _).mono ?_); rintro e w1 ⟨rfl, hb1⟩; obtain ⟨hc1, hf1⟩ := bcell hb1; have hz1_0 : w.heap.size < w1.heap.size := (by have := hb1.size; rw [e3] at this; omega); have hz1_1 : w.heap.size + 1 < w1.heap.size := (by have := hb1.size; rw [e3] at this; omega); have hz1_2 : w.heap.size + 1 + 1 < w1.heap.size := (by have := hb1.size; rw [e3] at this; omega)))
    go_loopg [21] G.length (fun kq v21 w' => ∃ (i : Nat) (A' : Option Addr) (c' : Nat), i + kq = G.length ∧ v21 = .int .i64 i ∧ Aside0 (w'.heap[w.heap.size + 1 + 1]? = some (.cells #[.int .i64 m, .string d, .slice A' i c'] 42 (0, 0))) ∧ Aside0 (w'.heap[w.heap.size + 1]? = some (.cells #[.int .i64 0, .string ByteArray.empty, .slice none 0 0] 42 (0, 0))) ∧ Aside0 (Kd.R kW 76 w' w.heap.size (fun _ => True) (.slice A' i c') ((G.take i).map gw)) ∧ Aside0 (Below w.heap.size w w'))
    case atStart =>
      refine ⟨0, none, 0, by omega, rfl, ⟨?_⟩, ⟨?_⟩, ⟨by rw [List.take_zero]; exact Kd.R_nil _ _ _ _ _⟩, ⟨by with_reducible repeat first | exact Below.refl _ _ | refine below_alloc ?_ _ | refine below_drew1 ?_ | refine pw_below_drewN ?_ _ | refine below_set ?_ (by first | omega | simp) | refine below_step ?_ hb1⟩⟩
      · rw [HMZ.out, HDZ.out]
        first
          | exact set_heap (set_heap ((hb1.block _ (by rw [e3]; omega)).trans (heap3 w _ _ _)) 0 (.int .i64 most)) 1 (.string (zeros (n * 256)))
          | exact heap3 w _ _ _
      · first
          | exact (Below.heap_setCell _ _ _ _ (by dsimp only; omega)).trans ((Below.heap_setCell _ _ _ _ (by dsimp only; omega)).trans ((hb1.block _ (by rw [e3]; omega)).trans (heap2 w _ _ _)))
          | exact heap2 w _ _ _
    case round =>
      try clear hc1 hf1 hb1 hz1_0 hz1_1 hz1_2 cn
      clear HMZ HDZ
      obtain ⟨i, A', c', hi, rfl, HS, H1, HO, HB⟩ := hrel
      have s0 : wr.cell? ⟨w.heap.size + 1 + 1, 0, none⟩ = some (.int .i64 m) := Lib.cell_of_heap HS.out 0
      have s1 : wr.cell? ⟨w.heap.size + 1 + 1, 1, none⟩ = some (.string d) := Lib.cell_of_heap HS.out 1
      have s2 : wr.cell? ⟨w.heap.size + 1 + 1, 2, none⟩ = some (.slice A' i c') := Lib.cell_of_heap HS.out 2
      have ls := Aside0.mk (blk_lt HS.out)
      cases gk with
      | zero =>
        obtain rfl : i = G.length := by omega
        have hd : decide ((G.length : Int) < (G.length : Int)) = false := decide_eq_false (by omega)
        have r0 : wr.cell? ⟨w.heap.size + 1, 0, none⟩ = some (.int .i64 0) := Lib.cell_of_heap H1.out 0
        have r1 : wr.cell? ⟨w.heap.size + 1, 1, none⟩ = some (.string ByteArray.empty) := Lib.cell_of_heap H1.out 1
        have r2 : wr.cell? ⟨w.heap.size + 1, 2, none⟩ = some (.slice none 0 0) := Lib.cell_of_heap H1.out 2
        have g0 := Lib.frozen_of_heap H1.out 0
        have g1 := Lib.frozen_of_heap H1.out 1
        have g2 := Lib.frozen_of_heap H1.out 2
        have hR1 := Kd.R_set (Kd.R_set (Kd.R_set HO.out H1.out (by decide) 0 (.int .i64 m)) (set_heap H1.out 0 _) (by decide) 1 (.string d)) (set_heap (set_heap H1.out 0 _) 1 _) (by decide) 2 (.slice A' G.length c')
        rw [List.take_length] at hR1
        have HR1 := Aside0.mk hR1
        have HH := Aside0.mk (set_heap (set_heap (set_heap H1.out 0 (.int .i64 m)) 1 (.string d)) 2 (.slice A' G.length c'))
        clear hR1
        go_wp2
        have k0 := Lib.cell_of_heap HH.out 0
        have k1 := Lib.cell_of_heap HH.out 1
        have k2 := Lib.cell_of_heap HH.out 2
        simp at k0 k1 k2
        refine bodyPost_ret (v := sV m d A' G.length c') (by simp [results, Try.results55, go_sem, k0, k1, k2]) rfl ⟨A', c', rfl, HR1.out, ?_⟩
        exact below_set (below_set (below_set HB.out (by first | omega | simp)) (by first | omega | simp)) (by first | omega | simp)
      | succ k1 =>
        have hil : i < G.length := by omega
        have hd : decide ((i : Int) < (G.length : Int)) = true := decide_eq_true (by omega)
        have q1 : (0 : Int) ≤ (i : Int) := by omega
        have q2 : (i : Int) < (G.length : Int) := by omega
        have ew : IntKind.i64.wrap ((i : Int) + 1) = (i : Int) + 1 := by rw [IntKind.wrap_i64]; have := HL.out; omega
        obtain ⟨ad, e, hx0, hx1, hx2⟩ := at_gl HR.out.g1 i hil
        subst e
        replace hx0 := (HB.out.cell (World.block_lt_of_cell? w _ hx0)).trans hx0
        replace hx1 := (HB.out.cell (World.block_lt_of_cell? w _ hx1)).trans hx1
        replace hx2 := (HB.out.cell (World.block_lt_of_cell? w _ hx2)).trans hx2
        have HT := Aside0.mk (show (G.take i).map gw ++ [gw G[i]] = (G.take (i + 1)).map gw from by rw [List.take_succ_eq_append_getElem hil, List.map_append]; rfl)
        have HTl : Aside0 (((G.take i).map gw).length = i) := ⟨by rw [List.length_map, List.length_take]; omega⟩
        generalize (G.take i).map gw = xs at *
        generalize G[i] = g at *
        obtain ⟨ty, fx, bt⟩ := g
        simp only at hx0 hx1 hx2
        have lt2 : w.heap.size + 1 + 1 < wr.heap.size := ls.out
        have HO3 := Aside0.mk (Kd.R_alloc HO.out (.cells #[.int .i64 ty, .bool fx, .int .u64 bt] 79))
        have HB3 := Aside0.mk (below_alloc HB.out (.cells #[.int .i64 ty, .bool fx, .int .u64 bt] 79))
        go_wp2_with (first | (at_builtin; refine app_wd HO3.out HB3.out (ty, bt) (by have := HTl.out; have := HL.out; omega) rfl _ _ rfl rfl _ rfl (by simp) ?_; intro v1 u1 R1 B1 G1; have S0 : (wr.alloc (.cells #[.int .i64 ty, .bool fx, .int .u64 bt] 79)).heap[w.heap.size + 1 + 1]? = wr.heap[w.heap.size + 1 + 1]? := (below_alloc (Below.refl wr.heap.size wr) _).block _ ls.out; have S1 := (G1.block (w.heap.size + 1 + 1) (by simp; have := ls.out; omega) (Kd.R_ne HO.out HS.out (by decide))).trans (S0.trans HS.out); have T0 : (wr.alloc (.cells #[.int .i64 ty, .bool fx, .int .u64 bt] 79)).heap[w.heap.size + 1]? = wr.heap[w.heap.size + 1]? := (below_alloc (Below.refl wr.heap.size wr) _).block _ (by have := ls.out; omega); have T1 := (G1.block (w.heap.size + 1) (by simp; have := ls.out; omega) (Kd.R_ne HO.out H1.out (by decide))).trans (T0.trans H1.out); obtain ⟨A1, d1, rfl⟩ := Kd.R_slice R1; rw [List.length_append, HTl.out] at R1 ⊢; have y2 : u1.cell? ⟨w.heap.size + 1 + 1, 2, none⟩ = some (.slice A' i c') := Lib.cell_of_heap S1 2; have f2 := Lib.frozen_of_heap S1 2; have HS1 := Aside0.mk (set_heap S1 2 (.slice A1 (i + 1) d1)); have HT1 := Aside0.mk ((Below.heap_setCell u1 ⟨w.heap.size + 1 + 1, 2, none⟩ (.slice A1 (i + 1) d1) (w.heap.size + 1) (by dsimp only; omega)).trans T1); have HR1 := Aside0.mk (Kd.R_set R1 S1 (by decide) 2 (.slice A1 (i + 1) d1)); have HB1 : Aside0 (Below w.heap.size w (u1.setCell ⟨w.heap.size + 1 + 1, 2, none⟩ (.slice A1 (i + 1) d1))) := ⟨below_set B1 (by omega)⟩; clear S0 T0 S1 T1 R1 B1 G1))
        go_roundg k1
        case measure => omega
        case rel => exact ⟨i + 1, A1, d1, by omega, by rw [Int.natCast_add]; rfl, ⟨HS1.out⟩, ⟨HT1.out⟩, ⟨by rw [← HT.out]; exact HR1.out⟩, ⟨HB1.out⟩⟩
set_option maxRecDepth 100000 in
set_option maxHeartbeats 8000000 in
theorem fst_s (Af : Option Addr) (cf : Nat) (F : List Rec) (Ag : Option Addr) (cg : Nat) (G : List Glo) (mem : Bool) (pages most start : Int) (w : World) (hr : MdR w Af cf F Ag cg G) (hF : F.length ≤ 1048576) (hf : ∀ f ∈ F, lens f) (hG : G.length ≤ 1048576) (hS : -9223372036854775808 ≤ start) (hS2 : start ≤ 9223372036854775807) : Calls Try.prog 19 #[mdV Af cf F Ag cg G mem pages most start] w fun e w' => ∃ m d A' c' xs, (m, d, xs) = fsM F G mem pages most start ∧ e = .returned (.tuple #[sV m d A' xs.length c', .bool (gsM F G mem pages most start)]) ∧ Kd.R kW 76 w' w.heap.size (fun _ => True) (.slice A' xs.length c') xs ∧ Below w.heap.size w w' := by
  have HR := Aside0.mk hr
  have c1 := fun W (B : Below w.heap.size w W) => gsh_s Af cf F Ag cg G mem pages most start W (HR.out.below B) hF hf hG hS hS2
  unfold fsM
  have hm : gsM F G mem pages most start = true → mem = true → 0 ≤ pages ∧ pages ≤ most ∧ most ≤ 8 := gs_mem
  generalize gsM F G mem pages most start = rb at *
  cases rb with
  | false =>
    clear hm
    go_enter Try.func19, Try.ntmps19
    go_wp2_with (go_at_call 29; (with_reducible refine (c1 _ (by with_reducible repeat first | exact Below.refl _ _ | refine below_alloc ?_ _ | refine below_drew1 ?_ | refine pw_below_drewN ?_ _)).mono ?_); rintro e w1 ⟨rfl, hb1⟩; obtain ⟨hc1, hf1⟩ := bcell hb1; have hz1_0 : w.heap.size < w1.heap.size := (by have := hb1.size; first | omega | (simp at this; omega)); have hz1_1 : w.heap.size + 1 < w1.heap.size := (by have := hb1.size; first | omega | (simp at this; omega)))
    refine bodyPost_ret (v := .tuple #[sV 0 ByteArray.empty none 0 0, .bool false]) (by simp [results, Try.results19, go_sem, hc1, hf1, hz1_0, hz1_1]; try rfl) rfl ⟨0, ByteArray.empty, none, 0, [], by simp, rfl, Kd.R_nil _ _ _ _ _, ?_⟩
    with_reducible repeat first | exact Below.refl _ _ | refine below_alloc ?_ _ | refine below_drew1 ?_ | refine pw_below_drewN ?_ _ | refine below_set ?_ (by first | omega | simp) | refine below_step ?_ hb1
  | true =>
    have c2 := fun W (B : Below w.heap.size w W) => l8f Af cf F Ag cg G mem pages most start W (HR.out.below B) hG (hm rfl)
    clear hm hr hF hf hG hS hS2
    generalize fmM mem pages most = mm at *
    obtain ⟨m, d⟩ := mm
    simp only at c2
    go_enter Try.func19, Try.ntmps19
    go_wp2_with (first | (go_at_call 55; have _ := hb1; (with_reducible refine (c2 _ (by with_reducible repeat first | exact Below.refl _ _ | refine below_alloc ?_ _ | refine below_drew1 ?_ | refine pw_below_drewN ?_ _ | refine below_step ?_ hb1)).mono ?_); rintro e w2 ⟨A2, d2, rfl, R2, hb2⟩; obtain ⟨hc2, hf2⟩ := bcell hb2; have hz2_0 : w.heap.size < w2.heap.size := (by have := hb2.size; first | omega | (simp at this; omega)); have hz2_1 : w.heap.size + 1 < w2.heap.size := (by have := hb2.size; first | omega | (simp at this; omega)); replace R2 := Aside0.mk (And.intro R2 (show w.heap.size + 1 < w1.heap.size from by omega))) | (go_at_call 29; (with_reducible refine (c1 _ (by with_reducible repeat first | exact Below.refl _ _ | refine below_alloc ?_ _ | refine below_drew1 ?_ | refine pw_below_drewN ?_ _)).mono ?_); rintro e w1 ⟨rfl, hb1⟩; obtain ⟨hc1, hf1⟩ := bcell hb1; have hz1_0 : w.heap.size < w1.heap.size := (by have := hb1.size; first | omega | (simp at this; omega)); have hz1_1 : w.heap.size + 1 < w1.heap.size := (by have := hb1.size; first | omega | (simp at this; omega))))
    have hR2 := Kd.R_lower (base' := w.heap.size + 1 + 1) R2.out.1 (by have := R2.out.2; simp [World.setCell]; omega)
    refine bodyPost_ret (v := .tuple #[sV m d A2 G.length d2, .bool true]) (by simp [results, Try.results19, go_sem, hc1, hf1, hz1_0, hz1_1, hc2, hf2, hz2_0, hz2_1]; try rfl) rfl ⟨m, d, A2, d2, G.map gw, by simp, by rw [List.length_map], ?_, ?_⟩
    · rw [List.length_map]
      exact Kd.R_lower (own_step hR2 (fun k hk hlt => ⟨by (repeat (with_reducible refine Eq.trans (Below.heap_setCell _ _ _ _ (by dsimp only; omega)) ?_)); with_reducible rfl, by simpa [World.setCell] using hlt⟩) (Below.refl _ _)) (by omega)
    · with_reducible repeat first | exact Below.refl _ _ | refine below_alloc ?_ _ | refine below_drew1 ?_ | refine pw_below_drewN ?_ _ | refine below_set ?_ (by first | omega | simp) | refine below_step ?_ hb2 | refine below_step ?_ hb1
end Go.Proofs.Ytfhnffondamhdaa.OwnFis
namespace Go.Proofs.Ytfhnffondamhdaa.OwnFii
open Go Go.RowKit Go.Proofs.YtfhnffondamhdaaW.PrintWords Go.Proofs.YtfhnffondamhdaaW.PrintLast Go.Proofs.YtfhnffondamhdaaW.PrintMore Go.Proofs.Ytfhnffondamhdaa.OwnBs Go.Proofs.Ytfhnffondamhdaa.OwnKp Go.Proofs.Ytfhnffondamhdaa.OwnCode Go.Proofs.Ytfhnffondamhdaa.OwnSt Go.Proofs.Ytfhnffondamhdaa.OwnFn Go.Proofs.Ytfhnffondamhdaa.OwnTo Go.Proofs.Ytfhnffondamhdaa.OwnSz Go.Proofs.Ytfhnffondamhdaa.OwnFs Go.Proofs.Ytfhnffondamhdaa.OwnMd Go.Proofs.Ytfhnffondamhdaa.OwnGs Go.Proofs.Ytfhnffondamhdaa.OwnWd Go.Proofs.Ytfhnffondamhdaa.OwnSs Go.Proofs.Ytfhnffondamhdaa.OwnNm Go.Proofs.Ytfhnffondamhdaa.OwnGsI Go.Proofs.Ytfhnffondamhdaa.OwnFis
set_option linter.unusedVariables false
set_option linter.unusedSimpArgs false
set_option maxRecDepth 100000 in
set_option maxHeartbeats 40000000 in
theorem fst_i (Af : Option Addr) (cf : Nat) (F : List Rec) (Ag : Option Addr) (cg : Nat) (G : List Glo) (mem : Bool) (pages most start : Int) (w : World) (hr : MdR w Af cf F Ag cg G) (hF : F.length ≤ 1048576) (hf : ∀ f ∈ F, lens f) (hG : G.length ≤ 1048576) (hS : -9223372036854775808 ≤ start) (hS2 : start ≤ 9223372036854775807) : Calls Try.prog 20 #[mdV Af cf F Ag cg G mem pages most start] w fun e w' => ∃ m d A' c' xs, (m, d, xs) = fsM F G mem pages most start ∧ e = .returned (.tuple #[sV m d A' xs.length c', .bool (gsM F G mem pages most start)]) ∧ Kd.R kW 76 w' w.heap.size (fun _ => True) (.slice A' xs.length c') xs ∧ Below w.heap.size w w' := by
  have HR := Aside0.mk hr
  have c1 := fun W (B : Below w.heap.size w W) => gsh_i Af cf F Ag cg G mem pages most start W (HR.out.below B) hF hf hG hS hS2
  unfold fsM
  have hm : gsM F G mem pages most start = true → mem = true → 0 ≤ pages ∧ pages ≤ most ∧ most ≤ 8 := gs_mem
  have HL := Aside0.mk hG
  clear hr hF hf hG hS hS2
  generalize gsM F G mem pages most start = rb at *
  have e2 : ∀ (o1 o2 : Obj), ((w.alloc o1).alloc o2).heap.size = w.heap.size + 2 := by intro o1 o2; simp
  cases rb with
  | false =>
    clear hm
    go_enter Try.func20, Try.ntmps20
    go_wp2_with (go_at_call 30; (with_reducible refine (c1 _ (by with_reducible repeat first | exact Below.refl _ _ | refine below_alloc ?_ _ | refine below_drew1 ?_ | refine pw_below_drewN ?_ _)).mono ?_); rintro e w1 ⟨rfl, hb1⟩; obtain ⟨hc1, hf1⟩ := bcell hb1; have hz1_0 : w.heap.size < w1.heap.size := (by have := hb1.size; first | omega | (simp at this; omega)); have hz1_1 : w.heap.size + 1 < w1.heap.size := (by have := hb1.size; first | omega | (simp at this; omega)))
    refine bodyPost_ret (v := .tuple #[sV 0 ByteArray.empty none 0 0, .bool false]) (by simp [results, Try.results20, go_sem, hc1, hf1, hz1_0, hz1_1]; try rfl) rfl ⟨0, ByteArray.empty, none, 0, [], by simp, rfl, Kd.R_nil _ _ _ _ _, ?_⟩
    with_reducible repeat first | exact Below.refl _ _ | refine below_alloc ?_ _ | refine below_drew1 ?_ | refine pw_below_drewN ?_ _ | refine below_set ?_ (by first | omega | simp) | refine below_step ?_ hb1
  | true =>
    rw [if_pos rfl]
    obtain ⟨mm, hmm⟩ : ∃ x, fmM mem pages most = x := ⟨_, rfl⟩
    rw [hmm]
    obtain ⟨m, d⟩ := mm
    simp only
    have K : (mem = false ∧ m = 0 ∧ d = ByteArray.empty) ∨ (mem = true ∧ m = most ∧ ∃ n : Nat, pages = n ∧ (n : Int) ≤ most ∧ most ≤ 8 ∧ d = zeros (n * 256)) := by
      unfold fmM at hmm
      cases mem with
      | false => rw [if_neg (by decide)] at hmm; cases hmm; exact .inl ⟨rfl, rfl, rfl⟩
      | true =>
        have h := hm rfl rfl
        rw [if_pos rfl] at hmm
        cases hmm
        exact .inr ⟨rfl, rfl, pages.toNat, by omega, by omega, h.2.2, by rw [show (pages * 256).toNat = pages.toNat * 256 by omega]⟩
    clear hm hmm
    have c2 : 0 ≤ (G.length : Int) := by omega
    rcases K with ⟨rfl, hmz, hdz⟩ | ⟨rfl, hmz, n, rfl, h1, h2, hdz⟩
    all_goals
      have HMZ := Aside0.mk hmz
      have HDZ := Aside0.mk hdz
      clear hmz hdz
      try have cn := fun W => new_i n most h1 h2 W
      go_enter Try.func20, Try.ntmps20
      go_wp2_with (first | (go_at_call 30; (with_reducible refine (c1 _ (by with_reducible repeat first | exact Below.refl _ _ | refine below_alloc ?_ _ | refine below_drew1 ?_ | refine pw_below_drewN ?_ _)).mono ?_); rintro e w1 ⟨rfl, hb1⟩; obtain ⟨hc1, hf1⟩ := bcell hb1; have hz1_0 : w.heap.size < w1.heap.size := (by have := hb1.size; first | omega | (simp at this; omega)); have hz1_1 : w.heap.size + 1 < w1.heap.size := (by have := hb1.size; first | omega | (simp at this; omega))) | ((with_reducible refine gate_dst (N := 14) rfl ?_); refine Kd.R_make kW _ 76 rfl (N := 14) rfl 40 _ _ rfl (G.length : Int) rfl rfl Try.underlying40 (.agg #[(.int .i64 0), (.int .u64 0)]) 16 kWI rfl (by decide) (by omega) (0, 0) (ok := fun _ => True) (okp := fun _ => True) (toWdM _ _ _ (0, 0)) (fun _ hk => hk) trivial c2 (by simp only [Int.toNat_natCast]; have := HL.out; omega) (Below.refl _ _) (Nat.le_refl _) ?_; intro v1 w2 ho hb hg hn; clear hg hn; obtain ⟨A1, d1, rfl⟩ := Kd.R_slice ho; have hq := hb.size; have H2 := Aside0.mk ((hb.block (w.heap.size + 1) hz1_1).trans ((hb1.block (w.heap.size + 1) (by rw [e2]; omega)).trans (heap2' w _ _))); have HB2 := Aside0.mk (below_step (show Below w.heap.size w w1 from below_step (by with_reducible repeat first | exact Below.refl _ _ | refine below_alloc ?_ _ | refine below_drew1 ?_ | refine pw_below_drewN ?_ _) hb1) hb); have k1 : w2.cell? ⟨w.heap.size, 1, none⟩ = some (.slice Ag G.length cg) := (by rw [hb.cell (p := ⟨w.heap.size, 1, none⟩) hz1_0, hc1 _ _ (by first | omega | (simp <;> omega))] <;> go_simp); have k2 : w2.cell? ⟨w.heap.size, 2, none⟩ = w1.cell? ⟨w.heap.size, 2, none⟩ := hb.cell (p := ⟨w.heap.size, 2, none⟩) hz1_0; have k3 : w2.cell? ⟨w.heap.size, 3, none⟩ = w1.cell? ⟨w.heap.size, 3, none⟩ := hb.cell (p := ⟨w.heap.size, 3, none⟩) hz1_0; have k4 : w2.cell? ⟨w.heap.size, 4, none⟩ = w1.cell? ⟨w.heap.size, 4, none⟩ := hb.cell (p := ⟨w.heap.size, 4, none⟩) hz1_0; rw [hc1 _ _ (by first | omega | (simp <;> omega))] at k2 k3 k4; have hz2_0 : w.heap.size < w2.heap.size := (by omega); have hz2_1 : w.heap.size + 1 < w2.heap.size := (by omega); clear hc1 hf1 hb1 hb hq; rw [List.length_replicate] at ho; simp only [Int.toNat_natCast] at ho; have HO0 := Aside0.mk (Kd.R_lower (base' := w.heap.size) ho (by omega)); clear ho) | (go_at_call 56; (with_reducible refine (cn _).mono ?_); rintro e w3 ⟨rfl, hb3⟩; obtain ⟨hc3, hf3⟩ := bcell hb3; have hz3 : w2.heap.size < w3.heap.size := (by have := hb3.size; simp at this; omega); have hz3_0 : w.heap.size < w3.heap.size := (by omega)))
      go_loopg [30] G.length (fun kq v30 w' => ∃ (xs : List (Int × Int)) (x4 : Int), v30 = .int .i64 x4 ∧ Aside0 (0 ≤ x4 ∧ x4 + kq = G.length) ∧ Aside0 (xs.length = G.length ∧ ∀ j : Nat, j < x4.toNat → xs[j]? = (G.map gw)[j]?) ∧ Aside0 (w'.heap[w2.heap.size]? = some (.cells #[.int .i64 m, .string d, .slice A1 G.length d1] 42 (0, 0))) ∧ Aside0 (w'.heap[w.heap.size + 1]? = some (.cells #[.int .i64 0, .string ByteArray.empty, .slice none 0 0] 42 (0, 0))) ∧ Aside0 (Kd.R kW 76 w' w.heap.size (fun _ => True) (.slice A1 G.length d1) xs) ∧ Aside0 (Below w.heap.size w w'))
      case atStart =>
        refine ⟨List.replicate G.length (0, 0), 0, rfl, ⟨by omega⟩, ⟨List.length_replicate .., fun j h => absurd h (Nat.not_lt_zero _)⟩, ⟨?_⟩, ⟨?_⟩, ⟨?_⟩, ⟨?_⟩⟩
        · rw [HMZ.out, HDZ.out]
          first
            | exact set_heap (set_heap ((hb3.block _ (by simp)).trans (heap1 w2 _)) 0 (.int .i64 most)) 1 (.string (zeros (n * 256)))
            | exact heap1 w2 _
        · first
            | exact (Below.heap_setCell _ _ _ _ (by dsimp only; omega)).trans ((Below.heap_setCell _ _ _ _ (by dsimp only; omega)).trans ((hb3.block _ (by simp; omega)).trans (((below_alloc (Below.refl w2.heap.size w2) _).block _ hz2_1).trans H2.out)))
            | exact ((below_alloc (Below.refl w2.heap.size w2) _).block _ hz2_1).trans H2.out
        · first
            | exact Kd.R_set (Kd.R_set (Kd.R_below (Kd.R_alloc HO0.out _) hb3) ((hb3.block _ (by simp)).trans (heap1 w2 _)) (by decide) 0 (.int .i64 most)) (set_heap ((hb3.block _ (by simp)).trans (heap1 w2 _)) 0 (.int .i64 most)) (by decide) 1 (.string (zeros (n * 256)))
            | exact Kd.R_alloc HO0.out _
        · first
            | exact below_set (below_set (below_step (below_alloc HB2.out _) hb3) (by omega)) (by omega)
            | exact below_alloc HB2.out _
      case round =>
        try clear hc3 hf3 hb3 hz3 hz3_0 cn
        clear HMZ HDZ HO0 H2 HB2 k1 k2 k3 k4
        obtain ⟨xs, x4, rfl, HI, HX, HS, H1, HO, HB⟩ := hrel
        have s0 : wr.cell? ⟨w2.heap.size, 0, none⟩ = some (.int .i64 m) := Lib.cell_of_heap HS.out 0
        have s1 : wr.cell? ⟨w2.heap.size, 1, none⟩ = some (.string d) := Lib.cell_of_heap HS.out 1
        have s2 : wr.cell? ⟨w2.heap.size, 2, none⟩ = some (.slice A1 G.length d1) := Lib.cell_of_heap HS.out 2
        have ls := Aside0.mk (blk_lt HS.out)
        have hz9 : w2.heap.size < wr.heap.size := ls.out
        cases gk with
        | zero =>
          have hd : decide (x4 < (G.length : Int)) = false := decide_eq_false (by have := HI.out; omega)
          obtain rfl : xs = G.map gw := by
            refine List.ext_getElem? fun j => ?_
            by_cases h : j < G.length
            · exact HX.out.2 j (by have := HI.out; omega)
            · rw [List.getElem?_eq_none (by have := HX.out.1; omega), List.getElem?_eq_none (by rw [List.length_map]; omega)]
          have r0 : wr.cell? ⟨w.heap.size + 1, 0, none⟩ = some (.int .i64 0) := Lib.cell_of_heap H1.out 0
          have r1 : wr.cell? ⟨w.heap.size + 1, 1, none⟩ = some (.string ByteArray.empty) := Lib.cell_of_heap H1.out 1
          have r2 : wr.cell? ⟨w.heap.size + 1, 2, none⟩ = some (.slice none 0 0) := Lib.cell_of_heap H1.out 2
          have g0 := Lib.frozen_of_heap H1.out 0
          have g1 := Lib.frozen_of_heap H1.out 1
          have g2 := Lib.frozen_of_heap H1.out 2
          have HR1 := Aside0.mk (Kd.R_set (Kd.R_set (Kd.R_set HO.out H1.out (by decide) 0 (.int .i64 m)) (set_heap H1.out 0 _) (by decide) 1 (.string d)) (set_heap (set_heap H1.out 0 _) 1 _) (by decide) 2 (.slice A1 G.length d1))
          have HH := Aside0.mk (set_heap (set_heap (set_heap H1.out 0 (.int .i64 m)) 1 (.string d)) 2 (.slice A1 G.length d1))
          go_wp2
          have k0 := Lib.cell_of_heap HH.out 0
          have k1 := Lib.cell_of_heap HH.out 1
          have k2 := Lib.cell_of_heap HH.out 2
          simp at k0 k1 k2
          refine bodyPost_ret (v := .tuple #[sV m d A1 G.length d1, .bool true]) (by simp [results, Try.results20, go_sem, k0, k1, k2]) rfl ⟨m, d, A1, d1, G.map gw, by simp, by rw [List.length_map], by rw [List.length_map]; exact HR1.out, ?_⟩
          exact below_set (below_set (below_set HB.out (by first | omega | simp)) (by first | omega | simp)) (by first | omega | simp)
        | succ k1 =>
          have q1 : (0 : Int) ≤ x4 := HI.out.1
          have q2 : x4 < (G.length : Int) := by have := HI.out; omega
          have hd : decide (x4 < (G.length : Int)) = true := decide_eq_true q2
          have hil : x4.toNat < G.length := by omega
          have ew : IntKind.i64.wrap (x4 + 1) = x4 + 1 := by rw [IntKind.wrap_i64]; have := HL.out; omega
          obtain ⟨ad, e1, hx0, hx1, hx2⟩ := at_gl HR.out.g1 x4.toNat hil
          subst e1
          replace hx0 := (HB.out.cell (World.block_lt_of_cell? w _ hx0)).trans hx0
          replace hx1 := (HB.out.cell (World.block_lt_of_cell? w _ hx1)).trans hx1
          replace hx2 := (HB.out.cell (World.block_lt_of_cell? w _ hx2)).trans hx2
          have HSt := Aside0.mk (fun j (h : j < (x4 + 1).toNat) => (show (xs.set x4.toNat (gw G[x4.toNat]))[j]? = (G.map gw)[j]? from by
            rw [List.getElem?_set]
            split
            · rename_i e; subst e; rw [if_pos (by have := HX.out.1; omega), List.getElem?_map, List.getElem?_eq_getElem hil]; rfl
            · exact HX.out.2 j (by omega)))
          have HSl := Aside0.mk ((List.length_set ..).trans HX.out.1 : (xs.set x4.toNat (gw G[x4.toNat])).length = G.length)
          generalize G[x4.toNat] = g at *
          obtain ⟨ty, fx, bt⟩ := g
          simp only at hx0 hx1 hx2
          obtain ⟨go, co, eo, gb, ly, cl, HG⟩ := Kd.R_form HO.out (by have := HX.out.1; omega)
          injection eo with ea en ec
          subst ea; subst ec
          have n1 : w2.heap.size ≠ go := fun e => by have h := HS.out; rw [e, HG] at h; injection h with h; injection h with _ h; exact absurd h (by decide)
          have n2 : w.heap.size + 1 ≠ go := fun e => by have h := H1.out; rw [e, HG] at h; injection h with h; injection h with _ h; exact absurd h (by decide)
          obtain ⟨ce, hcl, hM, hcc, hfr⟩ := Kd.R_elem HO.out (0, 0) x4 q1 q2
          obtain rfl := toWdO hM
          have HP := Aside0.mk (Kd.R_alloc (Kd.R_seg HO.out x4 q1 q2 (seg := [.int .i64 ty, .int .u64 bt]) (j := 0) hcl hcc (show 2 ≤ 2 from by decide) (x' := (ty, bt)) (toWdM _ _ _ (ty, bt)) (fun _ hk => hk)).1 (.cells #[.int .i64 ty, .bool fx, .int .u64 bt] 79))
          have al : ∀ k, k < wr.heap.size → (((wr.setCell ⟨go, x4.toNat * 2, none⟩ (.int .i64 ty)).setCell ⟨go, x4.toNat * 2 + 1, none⟩ (.int .u64 bt)).alloc (.cells #[.int .i64 ty, .bool fx, .int .u64 bt] 79)).heap[k]? = ((wr.setCell ⟨go, x4.toNat * 2, none⟩ (.int .i64 ty)).setCell ⟨go, x4.toNat * 2 + 1, none⟩ (.int .u64 bt)).heap[k]? := fun k hk => (below_alloc (Below.refl _ ((wr.setCell ⟨go, x4.toNat * 2, none⟩ (.int .i64 ty)).setCell ⟨go, x4.toNat * 2 + 1, none⟩ (.int .u64 bt))) _).block k (by simpa [World.setCell] using hk)
          have HSb := Aside0.mk ((al _ ls.out).trans ((Below.heap_setCell _ ⟨go, x4.toNat * 2 + 1, none⟩ (.int .u64 bt) w2.heap.size n1).trans ((Below.heap_setCell _ ⟨go, x4.toNat * 2, none⟩ (.int .i64 ty) w2.heap.size n1).trans HS.out)))
          have H1b := Aside0.mk ((al _ (by have := ls.out; omega)).trans ((Below.heap_setCell _ ⟨go, x4.toNat * 2 + 1, none⟩ (.int .u64 bt) (w.heap.size + 1) n2).trans ((Below.heap_setCell _ ⟨go, x4.toNat * 2, none⟩ (.int .i64 ty) (w.heap.size + 1) n2).trans H1.out)))
          have HBb : Aside0 (Below w.heap.size w (((wr.setCell ⟨go, x4.toNat * 2, none⟩ (.int .i64 ty)).setCell ⟨go, x4.toNat * 2 + 1, none⟩ (.int .u64 bt)).alloc (.cells #[.int .i64 ty, .bool fx, .int .u64 bt] 79))) := ⟨below_alloc (below_set (below_set HB.out gb) gb) _⟩
          have hy0 := hcc 0 _ rfl
          have hf0 := hfr 0
          have hy1 := hcc 1 _ rfl
          have hf1 := hfr 1
          try simp only [show Kd.sz kW = 2 from rfl, Nat.add_zero] at hy0 hf0 hy1 hf1
          clear hcl hM hcc hfr HG gb en n1 n2 al HX
          go_wp2
          go_roundg k1
          case measure => omega
          case rel => exact ⟨_, x4 + 1, rfl, ⟨by have := HI.out; omega⟩, ⟨HSl.out, HSt.out⟩, ⟨HSb.out⟩, ⟨H1b.out⟩, ⟨HP.out⟩, ⟨HBb.out⟩⟩
end Go.Proofs.Ytfhnffondamhdaa.OwnFii
namespace Go.Proofs.Ytfhnffondamhdaa.OwnMr
open Go Go.RowKit Go.Proofs.YtfhnffondamhdaaW.PrintWords Go.Proofs.YtfhnffondamhdaaW.PrintLast Go.Proofs.YtfhnffondamhdaaW.PrintMore Go.Proofs.Ytfhnffondamhdaa.OwnBs Go.Proofs.Ytfhnffondamhdaa.OwnKp Go.Proofs.Ytfhnffondamhdaa.OwnCode Go.Proofs.Ytfhnffondamhdaa.OwnSt Go.Proofs.Ytfhnffondamhdaa.OwnFn Go.Proofs.Ytfhnffondamhdaa.OwnTo Go.Proofs.Ytfhnffondamhdaa.OwnSz Go.Proofs.Ytfhnffondamhdaa.OwnFs Go.Proofs.Ytfhnffondamhdaa.OwnMd Go.Proofs.Ytfhnffondamhdaa.OwnGs Go.Proofs.Ytfhnffondamhdaa.OwnWd Go.Proofs.Ytfhnffondamhdaa.OwnSs
set_option linter.unusedVariables false
set_option linter.unusedSimpArgs false
/-- What the marks keep: blocks outside [B, E); each block's type and size; a row of funcs but for the results. -/
structure Mk (B E : Nat) (w w' : World) : Prop where
  os : w'.os = w.os
  tape : w'.tape = w.tape
  output : w'.output = w.output
  size : w.heap.size ≤ w'.heap.size
  far : ∀ b, b < w.heap.size → (b < B ∨ E ≤ b) → w'.heap[b]? = w.heap[b]?
  form : ∀ (b : Nat) (cs : Array Value) (T : Nat), w.heap[b]? = some (.cells cs T (0, 0)) → ∃ cs', w'.heap[b]? = some (.cells cs' T (0, 0)) ∧ cs'.size = cs.size ∧ (T = 62 → ∀ q, q % 4 ≠ 1 → cs'[q]? = cs[q]?)
theorem Mk.refl (B E : Nat) (w : World) : Mk B E w w := ⟨rfl, rfl, rfl, Nat.le_refl _, fun _ _ _ => rfl, fun b cs T h => ⟨cs, h, rfl, fun _ _ _ => rfl⟩⟩
theorem Mk.trans {B E : Nat} {w w1 w2 : World} (h : Mk B E w w1) (g : Mk B E w1 w2) : Mk B E w w2 :=
  ⟨g.os.trans h.os, g.tape.trans h.tape, g.output.trans h.output, Nat.le_trans h.size g.size, fun b hb hc => (g.far b (Nat.lt_of_lt_of_le hb h.size) hc).trans (h.far b hb hc), fun b cs T hb => by
    obtain ⟨c1, h1, s1, f1⟩ := h.form b cs T hb
    obtain ⟨c2, h2, s2, f2⟩ := g.form b c1 T h1
    exact ⟨c2, h2, s2.trans s1, fun e q hq => (f2 e q hq).trans (f1 e q hq)⟩⟩
theorem Mk.of_below {B E : Nat} {w w1 : World} (h : Below w.heap.size w w1) : Mk B E w w1 :=
  ⟨h.os, h.tape, h.output, h.size, fun b hb _ => h.block b hb, fun b cs T hb => ⟨cs, (h.block b (blk_lt hb)).trans hb, rfl, fun _ _ _ => rfl⟩⟩
theorem Mk.set {B E : Nat} {w w1 : World} (h : Mk B E w w1) {g T o : Nat} {cs : Array Value} (hg : w1.heap[g]? = some (.cells cs T (0, 0))) (h1 : B ≤ g) (h2 : g < E) (ho : T = 62 → o % 4 = 1) (v : Value) : Mk B E w (w1.setCell ⟨g, o, none⟩ v) :=
  h.trans ⟨rfl, rfl, rfl, by simp [World.setCell], fun b hb hc => Below.heap_setCell _ _ _ _ (by dsimp only; omega), fun b c T' hb => by
    by_cases e : b = g
    · subst e
      rw [hg] at hb
      cases hb
      refine ⟨_, set_heap hg o v, by simp, fun eT q hq => ?_⟩
      rw [Array.getElem?_setIfInBounds, if_neg (by have := ho eT; omega)]
    · exact ⟨c, (Below.heap_setCell _ _ _ _ e).trans hb, rfl, fun _ _ _ => rfl⟩⟩
theorem Mk.below {B E n : Nat} {w w1 w2 : World} (h : Below n w w1) (hm : Mk B E w1 w2) (hn : n ≤ B) (hs : n ≤ w.heap.size) : Below n w w2 :=
  ⟨hm.os.trans h.os, hm.tape.trans h.tape, hm.output.trans h.output, Nat.le_trans h.size hm.size, fun k hk => (hm.far k (Nat.lt_of_lt_of_le (Nat.lt_of_lt_of_le hk hs) h.size) (.inl (Nat.lt_of_lt_of_le hk hn))).trans (h.block k hk)⟩
/-- A row's form: so many elements of k cells each, in [B, E). -/
def RowK (w : World) (B E T k : Nat) (A : Option Addr) (n : Nat) : Prop := n = 0 ∨ ∃ g cs, A = some ⟨g, 0, none⟩ ∧ B ≤ g ∧ g < E ∧ w.heap[g]? = some (.cells cs T (0, 0)) ∧ n * k ≤ cs.size
theorem RowK.keep {w w' : World} {B E B' E' T k : Nat} {A : Option Addr} {n : Nat} (h : RowK w B E T k A n) (hm : Mk B' E' w w') : RowK w' B E T k A n := by
  rcases h with h | ⟨g, cs, e, h1, h2, h3, h4⟩
  · exact .inl h
  · obtain ⟨c1, g1, g2, _⟩ := hm.form g cs T h3
    exact .inr ⟨g, c1, e, h1, h2, g1, by omega⟩
theorem RowK.of {α : Type} {d : Kd α} {T B : Nat} {w : World} {A : Option Addr} {n c : Nat} {xs : List α} (h : Kd.R d T w B (fun _ => True) (.slice A n c) xs) : RowK w B w.heap.size T d.sz A n := by
  by_cases hz : n = 0
  · exact .inl hz
  · have hn := (Kd.R_reads' h).1
    obtain ⟨g, cap, e, h1, h2, cs, h3⟩ := Kd.R_form h (by omega)
    injection e with ea _ _
    obtain ⟨inner, ho⟩ := Kd.R_own h
    rcases ho.2 with ⟨e1, _⟩ | ⟨g', cap', cur, e1, _, hh, _, _, hcs, _⟩
    · cases e1; omega
    · cases e1
      cases ea
      exact .inr ⟨g, cur, rfl, h1, h2, hh, by rw [hcs]; exact Nat.mul_le_mul_right _ (by omega)⟩
set_option maxRecDepth 100000 in
set_option maxHeartbeats 8000000 in
theorem mkInt (A : Option Addr) (n c : Nat) (k : Int) (B E : Nat) (w : World) (hr : RowK w B E 3 1 A n) (hn : n ≤ 1048576) (hk : 0 ≤ k) (hk2 : k ≤ 1125899906842624) : Calls Try.prog 94 #[.slice A n c, .int .i64 k] w fun e w' => e = .returned (.int .i64 (k + n)) ∧ Mk B E w w' := by
  have HL := Aside0.mk (And.intro hn (And.intro hk hk2))
  have HR := Aside0.mk hr
  clear hn hk hk2 hr
  go_enter Try.func94, Try.ntmps94
  go_wp2
  go_loopg [1, 5] n (fun kq v1 vL w' => ∃ x4 : Int, v1 = .int .i64 (k + x4) ∧ vL = .int .i64 x4 ∧ Aside0 (0 ≤ x4 ∧ x4 + kq = n) ∧ Aside0 (Mk B E w w'))
  case atStart => exact ⟨0, by simp, rfl, ⟨by omega⟩, ⟨Mk.refl _ _ _⟩⟩
  case round =>
    obtain ⟨x4, rfl, rfl, HI, HM⟩ := hrel
    cases gk with
    | zero =>
      have hd : decide (x4 < (n : Int)) = false := decide_eq_false (by have := HI.out; omega)
      have HZ : Aside0 ((k + x4) = k + n) := ⟨by have := HI.out; omega⟩
      go_wp2
      go_ret
      exact ⟨by rw [← HZ.out]; rfl, HM.out⟩
    | succ k1 =>
      have q1 : (0 : Int) ≤ x4 := HI.out.1
      have q2 : x4 < (n : Int) := by have := HI.out; omega
      have hd : decide (x4 < (n : Int)) = true := decide_eq_true q2
      have hR := RowK.keep HR.out HM.out
      rcases hR with hz | ⟨g, cs, e, h1, h2, h3, h4⟩
      · exact absurd q2 (by omega)
      subst e
      have HG := Aside0.mk h3
      have HS : Aside0 (x4.toNat * 1 + 1 ≤ cs.size) := ⟨by have t : x4.toNat < n := (by omega); have t2 := Nat.mul_le_mul_right 1 (Nat.succ_le_of_lt t); rw [Nat.succ_mul] at t2; omega⟩
      clear h3 h4 HR
      obtain ⟨⟨u0, hy0⟩, hf0⟩ := cell_of HG.out (x4.toNat) (by have := HS.out; omega)
      have ew1 : IntKind.i64.wrap (k + x4 + 1) = k + x4 + 1 := by rw [IntKind.wrap_i64]; have := HL.out; omega
      have ew9 : IntKind.i64.wrap (x4 + 1) = x4 + 1 := by rw [IntKind.wrap_i64]; have := HL.out; omega
      have HMN : Aside0 (Mk B E w (wr.setCell ⟨g, x4.toNat, none⟩ (.int .i64 (k + x4)))) := ⟨by have hm0 := HM.out; have hg0 := HG.out; have hm1 := Mk.set hm0 hg0 h1 h2 (fun e => absurd e (by decide)) (o := x4.toNat) (.int .i64 (k + x4)); have hg1 := set_heap hg0 (x4.toNat) (.int .i64 (k + x4)); exact hm1⟩
      go_wp2
      go_roundg k1
      case measure => omega
      case rel => exact ⟨x4 + 1, congrArg (Value.int .i64) (by omega), rfl, ⟨by have := HI.out; omega⟩, ⟨HMN.out⟩⟩
set_option maxRecDepth 100000 in
set_option maxHeartbeats 8000000 in
theorem mkIns (A : Option Addr) (n c : Nat) (k : Int) (B E : Nat) (w : World) (hr : RowK w B E 143 2 A n) (hn : n ≤ 1048576) (hk : 0 ≤ k) (hk2 : k ≤ 1125899906842624) : Calls Try.prog 95 #[.slice A n c, .int .i64 k] w fun e w' => e = .returned (.int .i64 (k + n * 2)) ∧ Mk B E w w' := by
  have HL := Aside0.mk (And.intro hn (And.intro hk hk2))
  have HR := Aside0.mk hr
  clear hn hk hk2 hr
  go_enter Try.func95, Try.ntmps95
  go_wp2
  go_loopg [1, 5] n (fun kq v1 vL w' => ∃ x4 : Int, v1 = .int .i64 (k + x4 * 2) ∧ vL = .int .i64 x4 ∧ Aside0 (0 ≤ x4 ∧ x4 + kq = n) ∧ Aside0 (Mk B E w w'))
  case atStart => exact ⟨0, by simp, rfl, ⟨by omega⟩, ⟨Mk.refl _ _ _⟩⟩
  case round =>
    obtain ⟨x4, rfl, rfl, HI, HM⟩ := hrel
    cases gk with
    | zero =>
      have hd : decide (x4 < (n : Int)) = false := decide_eq_false (by have := HI.out; omega)
      have HZ : Aside0 ((k + x4 * 2) = k + n * 2) := ⟨by have := HI.out; omega⟩
      go_wp2
      go_ret
      exact ⟨by rw [← HZ.out]; rfl, HM.out⟩
    | succ k1 =>
      have q1 : (0 : Int) ≤ x4 := HI.out.1
      have q2 : x4 < (n : Int) := by have := HI.out; omega
      have hd : decide (x4 < (n : Int)) = true := decide_eq_true q2
      have hR := RowK.keep HR.out HM.out
      rcases hR with hz | ⟨g, cs, e, h1, h2, h3, h4⟩
      · exact absurd q2 (by omega)
      subst e
      have HG := Aside0.mk h3
      have HS : Aside0 (x4.toNat * 2 + 2 ≤ cs.size) := ⟨by have t : x4.toNat < n := (by omega); have t2 := Nat.mul_le_mul_right 2 (Nat.succ_le_of_lt t); rw [Nat.succ_mul] at t2; omega⟩
      clear h3 h4 HR
      obtain ⟨⟨u0, hy0⟩, hf0⟩ := cell_of HG.out (x4.toNat * 2) (by have := HS.out; omega)
      obtain ⟨⟨u1, hy1⟩, hf1⟩ := cell_of HG.out (x4.toNat * 2 + 1) (by have := HS.out; omega)
      have ew1 : IntKind.i64.wrap (k + x4 * 2 + 1) = k + x4 * 2 + 1 := by rw [IntKind.wrap_i64]; have := HL.out; omega
      have ew2 : IntKind.i64.wrap (k + x4 * 2 + 1 + 1) = k + x4 * 2 + 1 + 1 := by rw [IntKind.wrap_i64]; have := HL.out; omega
      have ew9 : IntKind.i64.wrap (x4 + 1) = x4 + 1 := by rw [IntKind.wrap_i64]; have := HL.out; omega
      have HMN : Aside0 (Mk B E w ((wr.setCell ⟨g, x4.toNat * 2, none⟩ (.int .i64 (k + x4 * 2))).setCell ⟨g, x4.toNat * 2 + 1, none⟩ (.int .i64 (k + x4 * 2 + 1)))) := ⟨by have hm0 := HM.out; have hg0 := HG.out; have hm1 := Mk.set hm0 hg0 h1 h2 (fun e => absurd e (by decide)) (o := x4.toNat * 2) (.int .i64 (k + x4 * 2)); have hg1 := set_heap hg0 (x4.toNat * 2) (.int .i64 (k + x4 * 2)); have hm2 := Mk.set hm1 hg1 h1 h2 (fun e => absurd e (by decide)) (o := x4.toNat * 2 + 1) (.int .i64 (k + x4 * 2 + 1)); have hg2 := set_heap hg1 (x4.toNat * 2 + 1) (.int .i64 (k + x4 * 2 + 1)); exact hm2⟩
      go_wp2
      go_roundg k1
      case measure => omega
      case rel => exact ⟨x4 + 1, congrArg (Value.int .i64) (by omega), rfl, ⟨by have := HI.out; omega⟩, ⟨HMN.out⟩⟩
set_option maxRecDepth 100000 in
set_option maxHeartbeats 8000000 in
theorem mkGl (A : Option Addr) (n c : Nat) (k : Int) (B E : Nat) (w : World) (hr : RowK w B E 79 3 A n) (hn : n ≤ 1048576) (hk : 0 ≤ k) (hk2 : k ≤ 1125899906842624) : Calls Try.prog 58 #[.slice A n c, .int .i64 k] w fun e w' => e = .returned (.int .i64 (k + n * 3)) ∧ Mk B E w w' := by
  have HL := Aside0.mk (And.intro hn (And.intro hk hk2))
  have HR := Aside0.mk hr
  clear hn hk hk2 hr
  go_enter Try.func58, Try.ntmps58
  go_wp2
  go_loopg [1, 5] n (fun kq v1 vL w' => ∃ x4 : Int, v1 = .int .i64 (k + x4 * 3) ∧ vL = .int .i64 x4 ∧ Aside0 (0 ≤ x4 ∧ x4 + kq = n) ∧ Aside0 (Mk B E w w'))
  case atStart => exact ⟨0, by simp, rfl, ⟨by omega⟩, ⟨Mk.refl _ _ _⟩⟩
  case round =>
    obtain ⟨x4, rfl, rfl, HI, HM⟩ := hrel
    cases gk with
    | zero =>
      have hd : decide (x4 < (n : Int)) = false := decide_eq_false (by have := HI.out; omega)
      have HZ : Aside0 ((k + x4 * 3) = k + n * 3) := ⟨by have := HI.out; omega⟩
      go_wp2
      go_ret
      exact ⟨by rw [← HZ.out]; rfl, HM.out⟩
    | succ k1 =>
      have q1 : (0 : Int) ≤ x4 := HI.out.1
      have q2 : x4 < (n : Int) := by have := HI.out; omega
      have hd : decide (x4 < (n : Int)) = true := decide_eq_true q2
      have hR := RowK.keep HR.out HM.out
      rcases hR with hz | ⟨g, cs, e, h1, h2, h3, h4⟩
      · exact absurd q2 (by omega)
      subst e
      have HG := Aside0.mk h3
      have HS : Aside0 (x4.toNat * 3 + 3 ≤ cs.size) := ⟨by have t : x4.toNat < n := (by omega); have t2 := Nat.mul_le_mul_right 3 (Nat.succ_le_of_lt t); rw [Nat.succ_mul] at t2; omega⟩
      clear h3 h4 HR
      obtain ⟨⟨u0, hy0⟩, hf0⟩ := cell_of HG.out (x4.toNat * 3) (by have := HS.out; omega)
      obtain ⟨⟨u1, hy1⟩, hf1⟩ := cell_of HG.out (x4.toNat * 3 + 1) (by have := HS.out; omega)
      obtain ⟨⟨u2, hy2⟩, hf2⟩ := cell_of HG.out (x4.toNat * 3 + 2) (by have := HS.out; omega)
      have ew1 : IntKind.i64.wrap (k + x4 * 3 + 1) = k + x4 * 3 + 1 := by rw [IntKind.wrap_i64]; have := HL.out; omega
      have ew2 : IntKind.i64.wrap (k + x4 * 3 + 1 + 1) = k + x4 * 3 + 1 + 1 := by rw [IntKind.wrap_i64]; have := HL.out; omega
      have ew3 : IntKind.i64.wrap (k + x4 * 3 + 1 + 1 + 1) = k + x4 * 3 + 1 + 1 + 1 := by rw [IntKind.wrap_i64]; have := HL.out; omega
      have ew9 : IntKind.i64.wrap (x4 + 1) = x4 + 1 := by rw [IntKind.wrap_i64]; have := HL.out; omega
      have HMN : Aside0 (Mk B E w (((wr.setCell ⟨g, x4.toNat * 3, none⟩ (.int .i64 (k + x4 * 3))).setCell ⟨g, x4.toNat * 3 + 1, none⟩ (.bool ((k + x4 * 3 + 1).tmod 3 == 0))).setCell ⟨g, x4.toNat * 3 + 2, none⟩ (.int .u64 (IntKind.u64.wrap (k + x4 * 3 + 1 + 1))))) := ⟨by have hm0 := HM.out; have hg0 := HG.out; have hm1 := Mk.set hm0 hg0 h1 h2 (fun e => absurd e (by decide)) (o := x4.toNat * 3) (.int .i64 (k + x4 * 3)); have hg1 := set_heap hg0 (x4.toNat * 3) (.int .i64 (k + x4 * 3)); have hm2 := Mk.set hm1 hg1 h1 h2 (fun e => absurd e (by decide)) (o := x4.toNat * 3 + 1) (.bool ((k + x4 * 3 + 1).tmod 3 == 0)); have hg2 := set_heap hg1 (x4.toNat * 3 + 1) (.bool ((k + x4 * 3 + 1).tmod 3 == 0)); have hm3 := Mk.set hm2 hg2 h1 h2 (fun e => absurd e (by decide)) (o := x4.toNat * 3 + 2) (.int .u64 (IntKind.u64.wrap (k + x4 * 3 + 1 + 1))); have hg3 := set_heap hg2 (x4.toNat * 3 + 2) (.int .u64 (IntKind.u64.wrap (k + x4 * 3 + 1 + 1))); exact hm3⟩
      go_wp2
      go_roundg k1
      case measure => omega
      case rel => exact ⟨x4 + 1, congrArg (Value.int .i64) (by omega), rfl, ⟨by have := HI.out; omega⟩, ⟨HMN.out⟩⟩
/-- A row of funcs, by its form, in [B, E). -/
def FsK (w : World) (B E : Nat) (A : Option Addr) (n : Nat) : Prop := n = 0 ∨ ∃ g cs, A = some ⟨g, 0, none⟩ ∧ B ≤ g ∧ g < E ∧ w.heap[g]? = some (.cells cs 62 (0, 0)) ∧ n * 4 ≤ cs.size ∧ ∀ j, j < n → ∃ Ap np cp Al nl cl Ab nb cb, cs[j * 4]? = some (.slice Ap np cp) ∧ cs[j * 4 + 2]? = some (.slice Al nl cl) ∧ cs[j * 4 + 3]? = some (.slice Ab nb cb) ∧ RowK w B E 3 1 Ap np ∧ RowK w B E 3 1 Al nl ∧ RowK w B E 143 2 Ab nb ∧ np ≤ 1048576 ∧ nl ≤ 1048576 ∧ nb ≤ 1048576
theorem FsK.keep {w w' : World} {B E B' E' : Nat} {A : Option Addr} {n : Nat} (h : FsK w B E A n) (hm : Mk B' E' w w') : FsK w' B E A n := by
  rcases h with h | ⟨g, cs, e, h1, h2, h3, h4, h5⟩
  · exact .inl h
  · obtain ⟨c1, g1, g2, g3⟩ := hm.form g cs _ h3
    refine .inr ⟨g, c1, e, h1, h2, g1, by omega, fun j hj => ?_⟩
    obtain ⟨Ap, np, cp, Al, nl, cl, Ab, nb, cb, x0, x2, x3, r0, r2, r3, hl⟩ := h5 j hj
    exact ⟨Ap, np, cp, Al, nl, cl, Ab, nb, cb, by rw [g3 rfl _ (by omega)]; exact x0, by rw [g3 rfl _ (by omega)]; exact x2, by rw [g3 rfl _ (by omega)]; exact x3, r0.keep hm, r2.keep hm, r3.keep hm, hl⟩
theorem RowK.up {w : World} {B E E' T k : Nat} {A : Option Addr} {n : Nat} (h : RowK w B E T k A n) (he : E ≤ E') : RowK w B E' T k A n := by
  rcases h with h | ⟨g, cs, e, h1, h2, h3⟩
  · exact .inl h
  · exact .inr ⟨g, cs, e, h1, by omega, h3⟩
theorem FsK.of {w : World} {B : Nat} {A : Option Addr} {F : List Rec} (h : FsG w B A F) (ht : FsT w B A F.length) (hl : ∀ f ∈ F, lens f) : FsK w B w.heap.size A F.length := by
  rcases ht with ht | ⟨g, cs, e, h1, h2, h3⟩
  · exact .inl ht
  · refine .inr ⟨g, cs, e, h1, blk_lt h2, h2, h3, fun j hj => ?_⟩
    obtain ⟨g', Ap, cp, Al, cl, Ab, cb, e', hg, x0, x1, x2, x3, hO⟩ := h j hj
    rw [e] at e'
    cases e'
    rw [Lib.cell_of_heap h2] at x0 x2 x3
    have hj' := hl F[j] (List.getElem_mem hj)
    exact ⟨Ap, _, cp, Al, _, cl, Ab, _, cb, x0, x2, x3, RowK.of hO.r1, RowK.of hO.r2, RowK.of hO.r3, hj'.1, hj'.2.1, hj'.2.2⟩
set_option maxRecDepth 100000 in
set_option maxHeartbeats 8000000 in
theorem mkFs (A : Option Addr) (n c : Nat) (k : Int) (B E : Nat) (w : World) (hr : FsK w B E A n) (hn : n ≤ 1048576) (hk : 0 ≤ k) (hk2 : k ≤ 4) : Calls Try.prog 57 #[.slice A n c, .int .i64 k] w fun e w' => ∃ k' : Int, e = .returned (.int .i64 k') ∧ 0 ≤ k' ∧ k' ≤ 4 + n * 8388608 ∧ Mk B E w w' := by
  have HL := Aside0.mk (And.intro hn (And.intro hk hk2))
  have HR := Aside0.mk hr
  clear hn hk hk2 hr
  go_enter Try.func57, Try.ntmps57
  go_wp2
  go_loopg [1, 5] n (fun kq v1 v5 w' => ∃ (x4 y : Int), v1 = .int .i64 y ∧ v5 = .int .i64 x4 ∧ Aside0 (0 ≤ x4 ∧ x4 + kq = n ∧ 0 ≤ y ∧ y ≤ 4 + x4 * 8388608) ∧ Aside0 (Mk B E w w'))
  case atStart => exact ⟨0, k, rfl, rfl, ⟨by have := HL.out; omega⟩, ⟨Mk.refl _ _ _⟩⟩
  case round =>
    obtain ⟨x4, y, rfl, rfl, HI, HM⟩ := hrel
    cases gk with
    | zero =>
      have hd : decide (x4 < (n : Int)) = false := decide_eq_false (by have := HI.out; omega)
      go_wp2
      go_ret
      exact ⟨y, rfl, HI.out.2.2.1, by have := HI.out; omega, HM.out⟩
    | succ k1 =>
      have q1 : (0 : Int) ≤ x4 := HI.out.1
      have q2 : x4 < (n : Int) := by have := HI.out; omega
      have hd : decide (x4 < (n : Int)) = true := decide_eq_true q2
      have hR := FsK.keep HR.out HM.out
      rcases hR with hz | ⟨g, cs, e, h1, h2, h3, h4, h5⟩
      · exact absurd q2 (by omega)
      subst e
      obtain ⟨Ap, np, cp, Al, nl, cl, Ab, nb, cb, x0, x2, x3, r0, r2, r3, l0, l2, l3⟩ := h5 x4.toNat (by omega)
      have hx0 : wr.cell? ⟨g, x4.toNat * 4, none⟩ = some (.slice Ap np cp) := (Lib.cell_of_heap h3 _).trans x0
      have HB0 := Aside0.mk (And.intro h1 (And.intro h2 (And.intro (show x4.toNat * 4 + 4 ≤ cs.size by have t : x4.toNat < n := (by omega); have t2 := Nat.mul_le_mul_right 4 (Nat.succ_le_of_lt t); rw [Nat.succ_mul] at t2; omega) (And.intro l0 (And.intro l2 l3)))))
      have HX := Aside0.mk (And.intro x0 (And.intro x2 x3))
      have HG := Aside0.mk h3
      have HR0 := Aside0.mk r0
      have HR2 := Aside0.mk r2
      have HR3 := Aside0.mk r3
      have ew9 : IntKind.i64.wrap (x4 + 1) = x4 + 1 := by rw [IntKind.wrap_i64]; have := HL.out; omega
      have ewk : IntKind.i64.wrap (y + np + 1) = y + np + 1 := by rw [IntKind.wrap_i64]; have := HL.out; have := HI.out; omega
      clear h3 h4 h5 x0 x2 x3 r0 r2 r3 l0 l2 l3 h1 h2 HR
      go_wp2_with (first | (go_at_call 95; (with_reducible refine (mkIns Ab nb cb (y + np + 1 + nl) B E _ (RowK.keep HR3.out HA2.out) HB0.out.2.2.2.2.2 (by have := HI.out; omega) (by have := HI.out; have := HL.out; have := HB0.out; omega)).mono ?_); rintro e w3 ⟨rfl, hm3⟩; have HA3 := Aside0.mk (HA2.out.trans hm3); clear hm3) | (go_at_call 94; have _ := HA1; (fail_if_success (have _ := HA2)); (with_reducible refine (mkInt Al nl cl (y + np + 1) B E _ (RowK.keep HR2.out HA1.out) HB0.out.2.2.2.2.1 (by have := HI.out; omega) (by have := HI.out; have := HL.out; have := HB0.out; omega)).mono ?_); rintro e w2 ⟨rfl, hm2⟩; obtain ⟨c2, g2, s2, f2⟩ := hm2.form g _ _ HG1.out; have hx3 : w2.cell? ⟨g, x4.toNat * 4 + 3, none⟩ = some (.slice Ab nb cb) := (by rw [Lib.cell_of_heap g2, f2 rfl _ (by omega), Array.getElem?_setIfInBounds, if_neg (by omega)]; exact HX1.out.2); have HA2 := Aside0.mk (HA1.out.trans hm2); clear hm2 g2 f2 s2) | (go_at_call 94; (fail_if_success (have _ := HA1)); (with_reducible refine (mkInt Ap np cp y B E _ HR0.out HB0.out.2.2.2.1 HI.out.2.2.1 (by have := HI.out; have := HL.out; omega)).mono ?_); rintro e w1 ⟨rfl, hm1⟩; obtain ⟨c1, g1, s1, f1⟩ := hm1.form g cs _ HG.out; obtain ⟨⟨u1, hy1⟩, hf1⟩ := cell_of g1 (x4.toNat * 4 + 1) (by have := HB0.out; omega); have HX1 := Aside0.mk (And.intro ((f1 rfl (x4.toNat * 4 + 2) (by omega)).trans HX.out.2.1) ((f1 rfl (x4.toNat * 4 + 3) (by omega)).trans HX.out.2.2)); have hx2 : w1.cell? ⟨g, x4.toNat * 4 + 2, none⟩ = some (.slice Al nl cl) := (Lib.cell_of_heap g1 _).trans HX1.out.1; have HA1 := Aside0.mk (Mk.set hm1 g1 HB0.out.1 HB0.out.2.1 (o := x4.toNat * 4 + 1) (fun _ => by omega) (.int .i64 (y + np))); have HG1 := Aside0.mk (set_heap g1 (x4.toNat * 4 + 1) (.int .i64 (y + np))); clear hm1 g1 f1 s1))
      go_roundg k1
      case measure => omega
      case rel => exact ⟨x4 + 1, y + np + 1 + nl + nb * 2, rfl, rfl, ⟨by have := HI.out; have := HB0.out; omega⟩, ⟨HM.out.trans HA3.out⟩⟩
end Go.Proofs.Ytfhnffondamhdaa.OwnMr
namespace Go.Proofs.Ytfhnffondamhdaa.OwnMw
open Go Go.RowKit Go.Proofs.YtfhnffondamhdaaW.PrintWords Go.Proofs.YtfhnffondamhdaaW.PrintLast Go.Proofs.YtfhnffondamhdaaW.PrintMore Go.Proofs.Ytfhnffondamhdaa.OwnBs Go.Proofs.Ytfhnffondamhdaa.OwnKp Go.Proofs.Ytfhnffondamhdaa.OwnCode Go.Proofs.Ytfhnffondamhdaa.OwnSt Go.Proofs.Ytfhnffondamhdaa.OwnFn Go.Proofs.Ytfhnffondamhdaa.OwnTo Go.Proofs.Ytfhnffondamhdaa.OwnSz Go.Proofs.Ytfhnffondamhdaa.OwnFs Go.Proofs.Ytfhnffondamhdaa.OwnMd Go.Proofs.Ytfhnffondamhdaa.OwnGs Go.Proofs.Ytfhnffondamhdaa.OwnWd Go.Proofs.Ytfhnffondamhdaa.OwnSs Go.Proofs.Ytfhnffondamhdaa.OwnMr
set_option linter.unusedVariables false
set_option linter.unusedSimpArgs false
set_option maxRecDepth 100000 in
set_option maxHeartbeats 8000000 in
theorem mkMd (Af : Option Addr) (cf : Nat) (F : List Rec) (Ag : Option Addr) (cg : Nat) (G : List Glo) (mem : Bool) (pages most start : Int) (B E : Nat) (w : World) (hF : FsK w B E Af F.length) (hG : RowK w B E 79 3 Ag G.length) (hE : E ≤ w.heap.size) (lF : F.length ≤ 1048576) (lG : G.length ≤ 1048576) : Calls Try.prog 21 #[mdV Af cf F Ag cg G mem pages most start, .int .i64 1] w fun e w' => ∃ k' : Int, e = .returned (.int .i64 k') ∧ 0 ≤ k' ∧ Mk B E w w' := by
  have HF := Aside0.mk hF
  have HG := Aside0.mk hG
  have HE := Aside0.mk hE
  have LF := Aside0.mk lF
  have LG := Aside0.mk lG
  clear hF hG hE lF lG
  go_enter Try.func21, Try.ntmps21
  go_wp2_with (first | (go_at_call 58; (with_reducible refine (mkGl Ag G.length cg k1 B E _ (RowK.keep HG.out HM1.out) LG.out HK1.out.1 (by have := HK1.out; have := LF.out; omega)).mono ?_); rintro e w2 ⟨rfl, hm2⟩; have HM2 := Aside0.mk (HM1.out.trans hm2); clear hm2) | (go_at_call 57; (with_reducible refine (mkFs Af F.length cf 1 B E _ (FsK.keep HF.out (Mk.of_below (B := B) (E := E) (by with_reducible repeat first | exact Below.refl _ _ | refine below_alloc ?_ _ | refine below_drew1 ?_ | refine pw_below_drewN ?_ _))) LF.out (by decide) (by decide)).mono ?_); rintro e w1 ⟨k1, rfl, hk0, hk1, hm1⟩; have hz1 : w.heap.size < w1.heap.size := (by have := hm1.size; simp at this; omega); have hx1 : w1.cell? ⟨w.heap.size, 1, none⟩ = some (.slice Ag G.length cg) := (by rw [World.cell?_of_block (hm1.far w.heap.size (by simp) (.inr HE.out))]; go_simp); have HM1 := Aside0.mk ((Mk.of_below (B := B) (E := E) (show Below w.heap.size w _ by with_reducible repeat first | exact Below.refl _ _ | refine below_alloc ?_ _ | refine below_drew1 ?_ | refine pw_below_drewN ?_ _)).trans hm1); have HK1 := Aside0.mk (And.intro hk0 hk1); clear hm1 hk0 hk1))
  go_ret
  exact ⟨_, rfl, by have := HK1.out; omega, HM2.out⟩
/-- All blocks but one are as they were. -/
abbrev Gr (w w' : World) (row : Option Nat) : Prop := w.grownBy w' row
theorem Gr.refl (w : World) (row : Option Nat) : Gr w w row := World.grownBy.refl w row
theorem Gr.trans {w w1 w2 : World} {row : Option Nat} (h : Gr w w1 row) (g : Gr w1 w2 row) : Gr w w2 row := ⟨g.1.trans h.1, g.2.trans h.2, g.3.trans h.3, Nat.le_trans h.4 g.4, fun b hb hr => (g.5 b (Nat.lt_of_lt_of_le hb h.4) hr).trans (h.5 b hb hr)⟩
theorem Gr.of {w w1 : World} {row : Option Nat} (h : w.grownBy w1 row) : Gr w w1 row := h
theorem Gr.of_below {w w1 : World} (h : Below w.heap.size w w1) (row : Option Nat) : Gr w w1 row := ⟨h.os, h.tape, h.output, h.size, fun b hb _ => h.block b hb⟩
theorem Gr.below {n : Nat} {w w1 w2 : World} {row : Option Nat} (h : Below n w w1) (g : Gr w1 w2 row) (hr : ∀ b, row = some b → n ≤ b) (hs : n ≤ w.heap.size) : Below n w w2 :=
  ⟨g.1.trans h.os, g.2.trans h.tape, g.3.trans h.output, Nat.le_trans h.size g.4, fun k hk => (g.5 k (Nat.lt_of_lt_of_le (Nat.lt_of_lt_of_le hk hs) h.size) (fun e => by have := hr k e.symm; omega)).trans (h.block k hk)⟩
/-- A marked row of words. -/
def mkL (k : Int) (n : Nat) : List (Int × Int) := (List.range n).map fun i : Nat => (k + (i : Int) * 2, k + (i : Int) * 2 + 1)
theorem mkL_len (k : Int) (n : Nat) : (mkL k n).length = n := by unfold mkL; simp
theorem mkL_at (k : Int) (n i : Nat) (h : i < n) : (mkL k n)[i]? = some (k + (i : Int) * 2, k + (i : Int) * 2 + 1) := by unfold mkL; simp [h]
set_option maxRecDepth 100000 in
set_option maxHeartbeats 8000000 in
theorem mkWd (A : Option Addr) (c n : Nat) (xs : List (Int × Int)) (k : Int) (B : Nat) (w : World) (hR : Kd.R kW 76 w B (fun _ => True) (.slice A n c) xs) (hn : n ≤ 1048576) (hk : 0 ≤ k) (hk2 : k ≤ 1024) : Calls Try.prog 59 #[.slice A n c, .int .i64 k] w fun e w' => e = .returned (.int .i64 (k + n * 2)) ∧ Kd.R kW 76 w' B (fun _ => True) (.slice A n c) (mkL k n) ∧ Gr w w' (Value.slice A n c).ownBlock := by
  have HL := Aside0.mk (And.intro hn (And.intro hk hk2))
  have HN := Aside0.mk (Kd.R_reads' hR).1
  have H0 := Aside0.mk hR
  clear hn hk hk2 hR
  go_enter Try.func59, Try.ntmps59
  go_wp2
  go_loopg [1, 5] n (fun kq v1 v5 w' => ∃ (ys : List (Int × Int)) (x4 : Int), v1 = .int .i64 (k + x4 * 2) ∧ v5 = .int .i64 x4 ∧ Aside0 (0 ≤ x4 ∧ x4 + kq = n) ∧ Aside0 (ys.length = n ∧ ∀ j : Nat, j < x4.toNat → ys[j]? = (mkL k n)[j]?) ∧ Aside0 (Kd.R kW 76 w' B (fun _ => True) (.slice A n c) ys) ∧ Aside0 (Gr w w' (Value.slice A n c).ownBlock))
  case atStart => exact ⟨xs, 0, by simp, rfl, ⟨by omega⟩, ⟨HN.out.symm, fun j h => absurd h (Nat.not_lt_zero _)⟩, H0, ⟨Gr.refl _ _⟩⟩
  case round =>
    clear H0 HN
    obtain ⟨ys, x4, rfl, rfl, HI, HX, HO, HB⟩ := hrel
    cases gk with
    | zero =>
      have hd : decide (x4 < (n : Int)) = false := decide_eq_false (by have := HI.out; omega)
      have HZ : Aside0 (k + x4 * 2 = k + n * 2) := ⟨by have := HI.out; omega⟩
      obtain rfl : ys = mkL k n := by
        refine List.ext_getElem? fun j => ?_
        by_cases h : j < n
        · exact HX.out.2 j (by have := HI.out; omega)
        · rw [List.getElem?_eq_none (by have := HX.out.1; omega), List.getElem?_eq_none (by rw [mkL_len]; omega)]
      go_wp2
      go_ret
      exact ⟨by rw [← HZ.out]; rfl, HO.out, HB.out⟩
    | succ k1 =>
      have q1 : (0 : Int) ≤ x4 := HI.out.1
      have q2 : x4 < (n : Int) := by have := HI.out; omega
      have hd : decide (x4 < (n : Int)) = true := decide_eq_true q2
      have HS := Aside0.mk (fun j (h : j < (x4 + 1).toNat) => (show (ys.set x4.toNat (k + x4 * 2, k + x4 * 2 + 1))[j]? = (mkL k n)[j]? from by
        rw [List.getElem?_set]
        split
        · rename_i e; subst e; rw [if_pos (by have := HX.out.1; omega), mkL_at k n _ (by omega), show ((x4.toNat : Nat) : Int) = x4 by omega]
        · exact HX.out.2 j (by omega)))
      have HSl := Aside0.mk ((List.length_set ..).trans HX.out.1 : (ys.set x4.toNat (k + x4 * 2, k + x4 * 2 + 1)).length = n)
      obtain ⟨go, co, eo, gb, ly, cl, HG⟩ := Kd.R_form HO.out (by have := HX.out.1; omega)
      injection eo with ea en ec
      subst ea; subst ec
      obtain ⟨ce, hcl, hM, hcc, hfr⟩ := Kd.R_elem HO.out (0, 0) x4 q1 q2
      obtain rfl := toWdO hM
      have hP := Kd.R_seg HO.out x4 q1 q2 (seg := [.int .i64 (k + x4 * 2), .int .u64 (k + x4 * 2 + 1)]) (j := 0) hcl hcc (show 2 ≤ 2 from by decide) (x' := (k + x4 * 2, k + x4 * 2 + 1)) (toWdM _ _ _ (k + x4 * 2, k + x4 * 2 + 1)) (fun _ hk => hk)
      have HP := Aside0.mk hP.1
      have HB2 := Aside0.mk (HB.out.trans (Gr.of hP.2))
      have hy0 := hcc 0 _ rfl
      have hf0 := hfr 0
      have hy1 := hcc 1 _ rfl
      have hf1 := hfr 1
      try simp only [show Kd.sz kW = 2 from rfl, Nat.add_zero] at hy0 hf0 hy1 hf1
      have ew1 : IntKind.i64.wrap (k + x4 * 2 + 1) = k + x4 * 2 + 1 := by rw [IntKind.wrap_i64]; have := HL.out; omega
      have ew2 : IntKind.i64.wrap (k + x4 * 2 + 1 + 1) = k + x4 * 2 + 1 + 1 := by rw [IntKind.wrap_i64]; have := HL.out; omega
      have ew9 : IntKind.i64.wrap (x4 + 1) = x4 + 1 := by rw [IntKind.wrap_i64]; have := HL.out; omega
      have ewu : IntKind.u64.wrap (k + x4 * 2 + 1) = k + x4 * 2 + 1 := by rw [IntKind.wrap_u64]; have := HL.out; omega
      clear hcl hM hcc hfr HG gb en hP HX
      go_wp2
      go_roundg k1
      case measure => omega
      case rel => exact ⟨_, x4 + 1, congrArg (Value.int .i64) (by omega), rfl, ⟨by have := HI.out; omega⟩, ⟨HSl.out, HS.out⟩, ⟨HP.out⟩, ⟨HB2.out⟩⟩
set_option maxRecDepth 100000 in
set_option maxHeartbeats 8000000 in
theorem hdWd (A : Option Addr) (c n : Nat) (k : Int) (w : World) (hC : Kd.C kW w A n (mkL k n)) (hn : n ≤ 1048576) (hk : 0 ≤ k) (hk2 : k ≤ 1024) : Calls Try.prog 60 #[.slice A n c, .int .i64 k] w fun e w' => e = .returned (.int .i64 (k + n * 2)) ∧ Below w.heap.size w w' := by
  have HL := Aside0.mk (And.intro hn (And.intro hk hk2))
  have HC := Aside0.mk hC
  clear hn hk hk2 hC
  go_enter Try.func60, Try.ntmps60
  go_wp2
  go_loopg [1, 5] n (fun kq v1 v5 w' => ∃ x4 : Int, v1 = .int .i64 (k + x4 * 2) ∧ v5 = .int .i64 x4 ∧ Aside0 (0 ≤ x4 ∧ x4 + kq = n) ∧ Aside0 (Below w.heap.size w w'))
  case atStart => exact ⟨0, by simp, rfl, ⟨by omega⟩, ⟨Below.refl _ _⟩⟩
  case round =>
    obtain ⟨x4, rfl, rfl, HI, HB⟩ := hrel
    cases gk with
    | zero =>
      have hd : decide (x4 < (n : Int)) = false := decide_eq_false (by have := HI.out; omega)
      have HZ : Aside0 (k + x4 * 2 = k + n * 2) := ⟨by have := HI.out; omega⟩
      go_wp2
      go_ret
      exact ⟨by rw [← HZ.out]; rfl, HB.out⟩
    | succ k1 =>
      have q1 : (0 : Int) ≤ x4 := HI.out.1
      have q2 : x4 < (n : Int) := by have := HI.out; omega
      have hd : decide (x4 < (n : Int)) = true := decide_eq_true q2
      have hil : x4.toNat < (mkL k n).length := by rw [mkL_len]; omega
      obtain ⟨ad, e1, hx0, hx1⟩ := at_wd HC.out x4.toNat hil
      subst e1
      have hv : (mkL k n)[x4.toNat] = (k + x4 * 2, k + x4 * 2 + 1) := by
        have h := mkL_at k n x4.toNat (by omega)
        rw [List.getElem?_eq_getElem hil] at h
        injection h with h
        rw [h, show ((x4.toNat : Nat) : Int) = x4 by omega]
      rw [hv] at hx0 hx1
      clear hv hil
      simp only at hx0 hx1
      replace hx0 := (HB.out.cell (World.block_lt_of_cell? w _ hx0)).trans hx0
      replace hx1 := (HB.out.cell (World.block_lt_of_cell? w _ hx1)).trans hx1
      have ew1 : IntKind.i64.wrap (k + x4 * 2 + 1) = k + x4 * 2 + 1 := by rw [IntKind.wrap_i64]; have := HL.out; omega
      have ew2 : IntKind.i64.wrap (k + x4 * 2 + 1 + 1) = k + x4 * 2 + 1 + 1 := by rw [IntKind.wrap_i64]; have := HL.out; omega
      have ew9 : IntKind.i64.wrap (x4 + 1) = x4 + 1 := by rw [IntKind.wrap_i64]; have := HL.out; omega
      have ewu : IntKind.u64.wrap (k + x4 * 2 + 1) = k + x4 * 2 + 1 := by rw [IntKind.wrap_u64]; have := HL.out; omega
      go_wp2
      go_roundg k1
      case measure => omega
      case rel => exact ⟨x4 + 1, congrArg (Value.int .i64) (by omega), rfl, ⟨by have := HI.out; omega⟩, ⟨below_step HB.out (by with_reducible repeat first | exact Below.refl _ _ | refine below_alloc ?_ _ | refine below_drew1 ?_ | refine pw_below_drewN ?_ _)⟩⟩
set_option maxRecDepth 100000 in
set_option maxHeartbeats 8000000 in
theorem mkSt (m : Int) (d : ByteArray) (A : Option Addr) (c n : Nat) (xs : List (Int × Int)) (B : Nat) (w : World) (hR : Kd.R kW 76 w B (fun _ => True) (.slice A n c) xs) (hn : n ≤ 1048576) : Calls Try.prog 22 #[sV m d A n c, .int .i64 1] w fun e w' => e = .returned (.int .i64 (1 + n * 2)) ∧ Kd.R kW 76 w' B (fun _ => True) (.slice A n c) (mkL 1 n) ∧ Gr w w' (Value.slice A n c).ownBlock := by
  have HR := Aside0.mk hR
  clear hR
  go_enter Try.func22, Try.ntmps22
  go_wp2_with (first | (go_at_call 59; (with_reducible refine (mkWd A c n xs 1 B _ (Kd.R_below HR.out (by with_reducible repeat first | exact Below.refl _ _ | refine below_alloc ?_ _ | refine below_drew1 ?_ | refine pw_below_drewN ?_ _)) hn (by decide) (by decide)).mono ?_); rintro e w1 ⟨rfl, r1, hg1⟩; have HR1 := Aside0.mk r1; have HG1 := Aside0.mk (Gr.trans (Gr.of_below (show Below w.heap.size w _ by with_reducible repeat first | exact Below.refl _ _ | refine below_alloc ?_ _ | refine below_drew1 ?_ | refine pw_below_drewN ?_ _) (Value.slice A n c).ownBlock) hg1); clear r1 hg1))
  go_ret
  exact ⟨rfl, HR1.out, HG1.out⟩
set_option maxRecDepth 100000 in
set_option maxHeartbeats 8000000 in
theorem hdSt (m : Int) (d : ByteArray) (A : Option Addr) (c n : Nat) (w : World) (hC : Kd.C kW w A n (mkL 1 n)) (hn : n ≤ 1048576) : Calls Try.prog 23 #[sV m d A n c, .int .i64 1] w fun e w' => e = .returned (.int .i64 (1 + n * 2)) ∧ Below w.heap.size w w' := by
  have HC := Aside0.mk hC
  have hd : decide ((1 : Int) + n * 2 < 0) = false := decide_eq_false (by omega)
  clear hC
  go_enter Try.func23, Try.ntmps23
  go_wp2_with (first | (go_at_call 60; (with_reducible refine (hdWd A c n 1 _ (Kd.C_below HC.out (by with_reducible repeat first | exact Below.refl _ _ | refine below_alloc ?_ _ | refine below_drew1 ?_ | refine pw_below_drewN ?_ _)) hn (by decide) (by decide)).mono ?_); rintro e w1 ⟨rfl, hb1⟩))
  go_ret
  exact ⟨rfl, by with_reducible repeat first | exact Below.refl _ _ | refine below_alloc ?_ _ | refine below_drew1 ?_ | refine pw_below_drewN ?_ _ | refine below_step ?_ hb1⟩
end Go.Proofs.Ytfhnffondamhdaa.OwnMw
namespace Go.Proofs.Ytfhnffondamhdaa.OwnFiL
open Go Go.RowKit Go.Proofs.YtfhnffondamhdaaW.PrintWords Go.Proofs.YtfhnffondamhdaaW.PrintLast Go.Proofs.YtfhnffondamhdaaW.PrintMore Go.Proofs.Ytfhnffondamhdaa.OwnBs Go.Proofs.Ytfhnffondamhdaa.OwnKp Go.Proofs.Ytfhnffondamhdaa.OwnCode Go.Proofs.Ytfhnffondamhdaa.OwnSt Go.Proofs.Ytfhnffondamhdaa.OwnFn Go.Proofs.Ytfhnffondamhdaa.OwnTo Go.Proofs.Ytfhnffondamhdaa.OwnSz Go.Proofs.Ytfhnffondamhdaa.OwnFs Go.Proofs.Ytfhnffondamhdaa.OwnMd Go.Proofs.Ytfhnffondamhdaa.OwnMdW Go.Proofs.Ytfhnffondamhdaa.OwnMdQ Go.Proofs.Ytfhnffondamhdaa.OwnMdE Go.Proofs.Ytfhnffondamhdaa.OwnGs Go.Proofs.Ytfhnffondamhdaa.OwnWd Go.Proofs.Ytfhnffondamhdaa.OwnSs Go.Proofs.Ytfhnffondamhdaa.OwnNm Go.Proofs.Ytfhnffondamhdaa.OwnFis Go.Proofs.Ytfhnffondamhdaa.OwnFii Go.Proofs.Ytfhnffondamhdaa.OwnMr Go.Proofs.Ytfhnffondamhdaa.OwnMw
set_option linter.unusedVariables false
set_option linter.unusedSimpArgs false
/-- Six cells of a block, a boxed module's. -/
structure M6 (b : Nat) (w : World) (Af : Option Addr) (cf n : Nat) (Ag : Option Addr) (cg k : Nat) (mem : Bool) (pages most start : Int) : Prop where
  c0 : w.cell? ⟨b, 0, none⟩ = some (.slice Af n cf)
  c1 : w.cell? ⟨b, 1, none⟩ = some (.slice Ag k cg)
  c2 : w.cell? ⟨b, 2, none⟩ = some (.bool mem)
  c3 : w.cell? ⟨b, 3, none⟩ = some (.int .i64 pages)
  c4 : w.cell? ⟨b, 4, none⟩ = some (.int .i64 most)
  c5 : w.cell? ⟨b, 5, none⟩ = some (.int .i64 start)
  lt : b < w.heap.size
theorem M6.far {b : Nat} {w w1 : World} {Af cf n Ag cg k mem pages most start} (h : M6 b w Af cf n Ag cg k mem pages most start) (hb : w1.heap[b]? = w.heap[b]? ∧ w.heap.size ≤ w1.heap.size) : M6 b w1 Af cf n Ag cg k mem pages most start :=
  have e : ∀ q, w1.cell? ⟨b, q, none⟩ = w.cell? ⟨b, q, none⟩ := fun q => World.cell?_of_block hb.1
  ⟨(e _).trans h.c0, (e _).trans h.c1, (e _).trans h.c2, (e _).trans h.c3, (e _).trans h.c4, (e _).trans h.c5, Nat.lt_of_lt_of_le h.lt hb.2⟩
theorem M6.below {b : Nat} {w w1 : World} {Af cf n Ag cg k mem pages most start} (h : M6 b w Af cf n Ag cg k mem pages most start) (hb : Below w.heap.size w w1) : M6 b w1 Af cf n Ag cg k mem pages most start := h.far ⟨hb.block _ h.lt, hb.size⟩
/-- Three cells of a block, a boxed state's. -/
structure SC (b : Nat) (w : World) (m : Int) (d : ByteArray) (A : Option Addr) (n c : Nat) : Prop where
  c0 : w.cell? ⟨b, 0, none⟩ = some (.int .i64 m)
  c1 : w.cell? ⟨b, 1, none⟩ = some (.string d)
  c2 : w.cell? ⟨b, 2, none⟩ = some (.slice A n c)
  lt : b < w.heap.size
theorem SC.far {b : Nat} {w w1 : World} {m d A n c} (h : SC b w m d A n c) (hb : w1.heap[b]? = w.heap[b]? ∧ w.heap.size ≤ w1.heap.size) : SC b w1 m d A n c :=
  have e : ∀ q, w1.cell? ⟨b, q, none⟩ = w.cell? ⟨b, q, none⟩ := fun q => World.cell?_of_block hb.1
  ⟨(e _).trans h.c0, (e _).trans h.c1, (e _).trans h.c2, Nat.lt_of_lt_of_le h.lt hb.2⟩
theorem SC.below {b : Nat} {w w1 : World} {m d A n c} (h : SC b w m d A n c) (hb : Below w.heap.size w w1) : SC b w1 m d A n c := h.far ⟨hb.block _ h.lt, hb.size⟩
/-- A copy's rows, by their form. -/
theorem x0_kept {w : World} {B n0 : Nat} {A D : Option Addr} {F : List Rec} {G : List Glo} {dc : Nat} (h : FsG w B A F) (ht : FsT w B A F.length) (hg : Kd.R kG 79 w B (fun _ => True) (.slice D G.length dc) G) (hB : n0 < B) (hl : ∀ f ∈ F, lens f) : ∃ B4, n0 < B4 ∧ FsK w B4 w.heap.size A F.length ∧ RowK w B4 w.heap.size 79 3 D G.length := ⟨B, hB, FsK.of h ht hl, RowK.of hg⟩
theorem R_mk {α : Type} {d : Kd α} {e b B E : Nat} {w W w' : World} {v : Value} {xs : List α} (h : Kd.R d e w b (fun _ => True) v xs) (hb : Below w.heap.size w W) (hm : Mk B E W w') (hE : E ≤ b) : Kd.R d e w' b (fun _ => True) v xs :=
  Kd.R_mono (Kd.R_step (Kd.R_bound h) (fun k hk hlt => (hm.far k (Nat.lt_of_lt_of_le hlt hb.size) (.inr (Nat.le_trans hE hk.2.1))).trans (hb.block k hlt))) (fun _ _ => trivial)
theorem R_old {α : Type} {d : Kd α} {e b B E n : Nat} {w W w' : World} {v : Value} {xs : List α} (h : Kd.R d e w b (fun k => k < n) v xs) (hb : Below w.heap.size w W) (hm : Mk B E W w') (hB : n ≤ B) : Kd.R d e w' b (fun k => k < n) v xs :=
  Kd.R_step h (fun k hk hlt => (hm.far k (Nat.lt_of_lt_of_le hlt hb.size) (.inl (Nat.lt_of_lt_of_le hk hB))).trans (hb.block k hlt))
theorem R_gr {α : Type} {d : Kd α} {e b n : Nat} {w W w' : World} {v : Value} {row : Option Nat} {xs : List α} (h : Kd.R d e w b (fun k => k < n) v xs) (hb : Below w.heap.size w W) (hg : Gr W w' row) (hB : ∀ k, row = some k → n ≤ k) : Kd.R d e w' b (fun k => k < n) v xs :=
  Kd.R_step h (fun k hk hlt => (hg.block k (Nat.lt_of_lt_of_le hlt hb.size) (fun e => by have := hB k e.symm; omega)).trans (hb.block k hlt))
theorem fs_len (F : List Rec) (G : List Glo) (mem : Bool) (pages most start : Int) : (fsM F G mem pages most start).2.2.length ≤ G.length := by
  unfold fsM
  split
  · simp
  · simp
set_option maxRecDepth 100000 in
set_option maxHeartbeats 40000000 in
theorem law_FirstState (Af : Option Addr) (cf : Nat) (F : List Rec) (Ag : Option Addr) (cg : Nat) (G : List Glo) (mem : Bool) (pages most start : Int) (w : World) (hr : MdR w Af cf F Ag cg G) (hF0 : F.length ≤ 9223372036854775807) (hf0 : ∀ f ∈ F, lens0 f) (hG0 : G.length ≤ 9223372036854775807) (hS : -9223372036854775808 ≤ start) (hS2 : start ≤ 9223372036854775807) : Calls Try.prog 5 #[mdV Af cf F Ag cg G mem pages most start] w fun e w' => e = .returned (.bool true) ∧ Below w.heap.size w w' := by
  have HR := Aside0.mk hr
  have cz := fun W (B : Below w.heap.size w W) => szMd Af cf F Ag cg G mem pages most start 1048576 W (HR.out.below B) (by decide) (by decide) hF0
  by_cases z : szM F G 1048576 < 0
  · clear hr hF0 hf0 hG0
    generalize szM F G 1048576 = q at *
    have hd : decide (q < 0) = true := decide_eq_true z
    go_enter Try.func5, Try.ntmps5
    go_wp2_with (first | (go_at_call 9; (fail_if_success (have _ := hb1)); (with_reducible refine (cz _ (by with_reducible repeat first | exact Below.refl _ _ | refine below_alloc ?_ _ | refine below_drew1 ?_ | refine pw_below_drewN ?_ _ | refine below_set ?_ (by omega))).mono ?_); rintro e w1 ⟨rfl, hb1⟩; obtain ⟨hc1, hf1⟩ := bcell hb1; obtain ⟨_, _, _, _, _, _, hz1_P⟩ : M6 (w.heap.size) w1 Af cf F.length Ag cg G.length mem pages most start := M6.below (by constructor <;> first | (go_simp; done) | omega | (simp; omega)) hb1))
    refine bodyPost_ret (v := .bool true) (by simp [results, Try.results5, go_sem, hc1, hf1, hz1_P]) rfl ⟨rfl, ?_⟩
    exact (by with_reducible repeat first | exact Below.refl _ _ | refine below_alloc ?_ _ | refine below_drew1 ?_ | refine pw_below_drewN ?_ _ | refine below_set ?_ (by omega) | refine below_step ?_ hb1)
  obtain ⟨gF, gf, gG, q0, q1⟩ := szM_le hF0 hf0 hG0 (by decide) (by decide) z
  have LF := Aside0.mk gF
  have Lf := Aside0.mk gf
  have LG := Aside0.mk gG
  have LX0 := fs_len F G mem pages most start
  obtain ⟨fq, hfq⟩ : ∃ x, fsM F G mem pages most start = x := ⟨_, rfl⟩
  have ct := fun W (B : Below w.heap.size w W) => toMd Af cf F Ag cg G mem pages most start W (HR.out.below B) LF.out Lf.out LG.out
  have cto := fun W (B : Below w.heap.size w W) => toMdO Af cf F Ag cg G mem pages most start W (HR.out.below B) LF.out Lf.out LG.out
  have cs : ∀ A1 c1 D1 d1 W, MdR W A1 c1 F D1 d1 G → Calls Try.prog 19 #[mdV A1 c1 F D1 d1 G mem pages most start] W fun e w' => ∃ A' c', e = .returned (.tuple #[sV fq.1 fq.2.1 A' fq.2.2.length c', .bool (gsM F G mem pages most start)]) ∧ Kd.R kW 76 w' W.heap.size (fun _ => True) (.slice A' fq.2.2.length c') fq.2.2 ∧ Below W.heap.size W w' := fun A1 c1 D1 d1 W R => (fst_s A1 c1 F D1 d1 G mem pages most start W R LF.out Lf.out LG.out hS hS2).mono fun e w' ⟨m', d', A', c', xs', hq, he, hR, hb⟩ => by rw [hfq] at hq; subst hq; exact ⟨A', c', he, hR, hb⟩
  have ci : ∀ A1 c1 D1 d1 W, MdR W A1 c1 F D1 d1 G → Calls Try.prog 20 #[mdV A1 c1 F D1 d1 G mem pages most start] W fun e w' => ∃ A' c', e = .returned (.tuple #[sV fq.1 fq.2.1 A' fq.2.2.length c', .bool (gsM F G mem pages most start)]) ∧ Kd.R kW 76 w' W.heap.size (fun _ => True) (.slice A' fq.2.2.length c') fq.2.2 ∧ Below W.heap.size W w' := fun A1 c1 D1 d1 W R => (fst_i A1 c1 F D1 d1 G mem pages most start W R LF.out Lf.out LG.out hS hS2).mono fun e w' ⟨m', d', A', c', xs', hq, he, hR, hb⟩ => by rw [hfq] at hq; subst hq; exact ⟨A', c', he, hR, hb⟩
  have ce := fun A1 c1 D1 d1 A2 c2 D2 d2 W R R' => eqMd A1 c1 F D1 d1 G mem pages most start A2 c2 D2 d2 W R R' LF.out Lf.out LG.out
  rw [hfq] at LX0
  clear hr hF0 hf0 hG0 gF gf q0 q1 hfq
  obtain ⟨m, d, xs⟩ := fq
  simp only at cs ci LX0
  have LX : Aside0 (xs.length ≤ 1048576) := ⟨Nat.le_trans LX0 gG⟩
  clear LX0 gG
  generalize szM F G 1048576 = q at *
  have hd : decide (q < 0) = false := decide_eq_false z
  generalize gsM F G mem pages most start = rb at *
  have hbb : (rb != rb) = false := by cases rb <;> rfl
  go_enter Try.func5, Try.ntmps5
  have hd12 : decide ((1 : Int) + xs.length * 2 < 0) = false := decide_eq_false (by omega)
  have ce2 := fun A1 c1 A2 c2 W R R' => eqSt m d A1 c1 A2 c2 xs W R R' LX.out
  go_wp2_with (first | (go_at_call 16; (fail_if_success (have _ := hb6)); have _ := hb5; (with_reducible refine (ce2 A5 c5 A3 c3 _ (Kd.C_below (Kd.R_reads' R5.out).2.2 (by with_reducible repeat first | exact Below.refl _ _ | refine below_alloc ?_ _ | refine below_drew1 ?_ | refine pw_below_drewN ?_ _ | refine below_set ?_ (by omega))) (Kd.C_below (Kd.R_reads' R3.out).2.2 (by with_reducible repeat first | exact Below.refl _ _ | refine below_alloc ?_ _ | refine below_drew1 ?_ | refine pw_below_drewN ?_ _ | refine below_set ?_ (by omega) | refine below_step ?_ hb5 | refine below_step ?_ hb4))).mono ?_); rintro e w6 ⟨rfl, hb6⟩; obtain ⟨hc6, hf6⟩ := bcell hb6; obtain ⟨_, _, _, _, _, _, hz6_P⟩ : M6 (w.heap.size) w6 Af cf F.length Ag cg G.length mem pages most start := M6.below (by constructor <;> first | (go_simp; done) | omega | (simp; omega)) hb6; obtain ⟨_, _, _, hz6_W⟩ : SC (w3.heap.size) w6 m d A3 xs.length c3 := SC.below (by constructor <;> first | (go_simp; done) | omega | (simp; omega)) hb6; obtain ⟨_, _, _, _, _, _, hz6_U⟩ : M6 (w4.heap.size) w6 A4 c4 F.length D4 d4 G.length mem pages most start := M6.below (by constructor <;> first | (go_simp; done) | omega | (simp; omega)) hb6; obtain ⟨_, _, _, hz6_V⟩ : SC (w5.heap.size) w6 m d A5 xs.length c5 := SC.below (by constructor <;> first | (go_simp; done) | omega | (simp; omega)) hb6) | (go_at_call 20; (fail_if_success (have _ := hb5)); have _ := hb4; (with_reducible refine (ci A4 c4 D4 d4 _ (R4.out.below (by with_reducible repeat first | exact Below.refl _ _ | refine below_alloc ?_ _ | refine below_drew1 ?_ | refine pw_below_drewN ?_ _ | refine below_set ?_ (by omega)))).mono ?_); rintro e w5 ⟨A5, c5, rfl, R5, hb5⟩; obtain ⟨hc5, hf5⟩ := bcell hb5; obtain ⟨_, _, _, _, _, _, hz5_P⟩ : M6 (w.heap.size) w5 Af cf F.length Ag cg G.length mem pages most start := M6.below (by constructor <;> first | (go_simp; done) | omega | (simp; omega)) hb5; obtain ⟨_, _, _, hz5_W⟩ : SC (w3.heap.size) w5 m d A3 xs.length c3 := SC.below (by constructor <;> first | (go_simp; done) | omega | (simp; omega)) hb5; obtain ⟨_, _, _, _, _, _, hz5_U⟩ : M6 (w4.heap.size) w5 A4 c4 F.length D4 d4 G.length mem pages most start := M6.below (by constructor <;> first | (go_simp; done) | omega | (simp; omega)) hb5; replace R5 := Aside0.mk (Kd.R_lower (base' := w4.heap.size + 1) R5 (by simp)); have HO5 : Aside0 (∀ b, (Value.slice A5 xs.length c5).ownBlock = some b → w4.heap.size + 1 ≤ b ∧ b < w5.heap.size) := ⟨fun b h => ⟨((Kd.R_bound R5.out).1 b h).2.1, ((Kd.R_bound R5.out).1 b h).2.2.1⟩⟩) | (go_at_call 12; (fail_if_success (have _ := hb4)); have _ := hb3; (with_reducible refine (cto _ (by with_reducible repeat first | exact Below.refl _ _ | refine below_alloc ?_ _ | refine below_drew1 ?_ | refine pw_below_drewN ?_ _ | refine below_set ?_ (by omega) | refine below_step ?_ hb3 | refine below_step ?_ hb2 | refine below_step ?_ hb1)).mono ?_); rintro e w4 ⟨A4, c4, D4, d4, rfl, G4, T4, l4, K4, l4', hb4⟩; obtain ⟨hc4, hf4⟩ := bcell hb4; obtain ⟨_, _, _, _, _, _, hz4_P⟩ : M6 (w.heap.size) w4 Af cf F.length Ag cg G.length mem pages most start := M6.below (by constructor <;> first | (go_simp; done) | omega | (simp; omega)) hb4; obtain ⟨_, _, _, hz4_W⟩ : SC (w3.heap.size) w4 m d A3 xs.length c3 := SC.below (by constructor <;> first | (go_simp; done) | omega | (simp; omega)) hb4; obtain ⟨B4, hB4, FK4⟩ := x0_kept G4 T4 K4 (show w3.heap.size < _ from by simp) Lf.out; have R4 := Aside0.mk (MdR.mk G4.reads l4 (gl_reads K4) l4'); replace FK4 := Aside0.mk FK4; clear G4 T4 K4 l4 l4') | (go_at_call 19; (fail_if_success (have _ := hb3)); have _ := hb2; (with_reducible refine (cs A2 c2 D2 d2 _ (R2.out.below (by with_reducible repeat first | exact Below.refl _ _ | refine below_alloc ?_ _ | refine below_drew1 ?_ | refine pw_below_drewN ?_ _ | refine below_set ?_ (by omega)))).mono ?_); rintro e w3 ⟨A3, c3, rfl, R3, hb3⟩; obtain ⟨hc3, hf3⟩ := bcell hb3; obtain ⟨_, _, _, _, _, _, hz3_P⟩ : M6 (w.heap.size) w3 Af cf F.length Ag cg G.length mem pages most start := M6.below (by constructor <;> first | (go_simp; done) | omega | (simp; omega)) hb3; replace R3 := Aside0.mk (Kd.R_mono (Kd.R_bound R3) (ok' := fun k => k < w3.heap.size) (fun k hk => hk.2.2.1))) | (go_at_call 12; (fail_if_success (have _ := hb2)); have _ := hb1; (with_reducible refine (ct _ (by with_reducible repeat first | exact Below.refl _ _ | refine below_alloc ?_ _ | refine below_drew1 ?_ | refine pw_below_drewN ?_ _ | refine below_set ?_ (by omega) | refine below_step ?_ hb1)).mono ?_); rintro e w2 ⟨A2, c2, D2, d2, rfl, R2, hb2⟩; obtain ⟨hc2, hf2⟩ := bcell hb2; obtain ⟨_, _, _, _, _, _, hz2_P⟩ : M6 (w.heap.size) w2 Af cf F.length Ag cg G.length mem pages most start := M6.below (by constructor <;> first | (go_simp; done) | omega | (simp; omega)) hb2; replace R2 := Aside0.mk R2) | (go_at_call 9; (fail_if_success (have _ := hb1)); (with_reducible refine (cz _ (by with_reducible repeat first | exact Below.refl _ _ | refine below_alloc ?_ _ | refine below_drew1 ?_ | refine pw_below_drewN ?_ _ | refine below_set ?_ (by omega))).mono ?_); rintro e w1 ⟨rfl, hb1⟩; obtain ⟨hc1, hf1⟩ := bcell hb1; obtain ⟨_, _, _, _, _, _, hz1_P⟩ : M6 (w.heap.size) w1 Af cf F.length Ag cg G.length mem pages most start := M6.below (by constructor <;> first | (go_simp; done) | omega | (simp; omega)) hb1))
  go_region_held_law (fun w' => w'.cell? ⟨w4.heap.size, 0, none⟩ = some (.slice A4 F.length c4) ∧ w'.cell? ⟨w4.heap.size, 1, none⟩ = some (.slice D4 G.length d4) ∧ w'.cell? ⟨w4.heap.size, 2, none⟩ = some (.bool mem) ∧ w'.cell? ⟨w4.heap.size, 3, none⟩ = some (.int .i64 pages) ∧ w'.cell? ⟨w4.heap.size, 4, none⟩ = some (.int .i64 most) ∧ w'.cell? ⟨w4.heap.size, 5, none⟩ = some (.int .i64 start) ∧ w'.cell? ⟨w.heap.size, 0, none⟩ = some (.slice Af F.length cf) ∧ w'.cell? ⟨w.heap.size, 1, none⟩ = some (.slice Ag G.length cg) ∧ w'.cell? ⟨w.heap.size, 2, none⟩ = some (.bool mem) ∧ w'.cell? ⟨w.heap.size, 3, none⟩ = some (.int .i64 pages) ∧ w'.cell? ⟨w.heap.size, 4, none⟩ = some (.int .i64 most) ∧ w'.cell? ⟨w.heap.size, 5, none⟩ = some (.int .i64 start)) (refine ⟨?_, ?_, ?_, ?_, ?_, ?_, ?_, ?_, ?_, ?_, ?_, ?_⟩ <;> go_simp) (first | (go_at_call 15; (fail_if_success (have _ := hb8)); have _ := hb7; (with_reducible refine (ce A4 c4 D4 d4 A7 c7 D7 d7 _ (R4.out.below (by with_reducible repeat first | exact Below.refl _ _ | refine below_alloc ?_ _ | refine below_drew1 ?_ | refine pw_below_drewN ?_ _ | refine below_set ?_ (by omega) | refine below_step ?_ hb7 | refine below_step ?_ hb6 | refine below_step ?_ hb5)) (R7.out.below (by with_reducible repeat first | exact Below.refl _ _ | refine below_alloc ?_ _ | refine below_drew1 ?_ | refine pw_below_drewN ?_ _ | refine below_set ?_ (by omega)))).mono ?_); rintro e w8 ⟨rfl, hb8⟩; obtain ⟨hc8, hf8⟩ := bcell hb8; obtain ⟨_, _, _, _, _, _, hz8_P⟩ : M6 (w.heap.size) w8 Af cf F.length Ag cg G.length mem pages most start := M6.below (by constructor <;> first | (go_simp; done) | omega | (simp; omega)) hb8; obtain ⟨_, _, _, hz8_W⟩ : SC (w3.heap.size) w8 m d A3 xs.length c3 := SC.below (by constructor <;> first | (go_simp; done) | omega | (simp; omega)) hb8; obtain ⟨_, _, _, _, _, _, hz8_U⟩ : M6 (w4.heap.size) w8 A4 c4 F.length D4 d4 G.length mem pages most start := M6.below (by constructor <;> first | (go_simp; done) | omega | (simp; omega)) hb8; obtain ⟨_, _, _, hz8_V⟩ : SC (w5.heap.size) w8 m d A5 xs.length c5 := SC.below (by constructor <;> first | (go_simp; done) | omega | (simp; omega)) hb8) | (go_at_call 12; (fail_if_success (have _ := hb7)); have _ := hb6; (with_reducible refine (ct _ (by with_reducible repeat first | exact Below.refl _ _ | refine below_alloc ?_ _ | refine below_drew1 ?_ | refine pw_below_drewN ?_ _ | refine below_set ?_ (by omega) | refine below_step ?_ hb6 | refine below_step ?_ hb5 | refine below_step ?_ hb4 | refine below_step ?_ hb3 | refine below_step ?_ hb2 | refine below_step ?_ hb1)).mono ?_); rintro e w7 ⟨A7, c7, D7, d7, rfl, R7, hb7⟩; obtain ⟨hc7, hf7⟩ := bcell hb7; obtain ⟨_, _, _, _, _, _, hz7_P⟩ : M6 (w.heap.size) w7 Af cf F.length Ag cg G.length mem pages most start := M6.below (by constructor <;> first | (go_simp; done) | omega | (simp; omega)) hb7; obtain ⟨_, _, _, hz7_W⟩ : SC (w3.heap.size) w7 m d A3 xs.length c3 := SC.below (by constructor <;> first | (go_simp; done) | omega | (simp; omega)) hb7; obtain ⟨_, _, _, _, _, _, hz7_U⟩ : M6 (w4.heap.size) w7 A4 c4 F.length D4 d4 G.length mem pages most start := M6.below (by constructor <;> first | (go_simp; done) | omega | (simp; omega)) hb7; obtain ⟨_, _, _, hz7_V⟩ : SC (w5.heap.size) w7 m d A5 xs.length c5 := SC.below (by constructor <;> first | (go_simp; done) | omega | (simp; omega)) hb7; replace R7 := Aside0.mk R7))
  all_goals
    first | (rename_i kk; refine kk _ _ ?_) | (rename_i kk _; refine kk _ _ ?_) | (rename_i kk _ _; refine kk _ _ ?_) | skip
    go_wp2_with (first | (go_at_call 23; (fail_if_success (have _ := hb16)); have _ := hb15; (with_reducible refine (hdSt m d A5 c5 xs.length _ (Kd.C_below RC11.out (by with_reducible repeat first | exact Below.refl _ _ | refine below_alloc ?_ _ | refine below_drew1 ?_ | refine pw_below_drewN ?_ _ | refine below_set ?_ (by omega) | refine below_step ?_ hb15 | refine below_step ?_ hb14 | refine below_step ?_ hb13 | refine below_step ?_ hb12)) LX.out).mono ?_); rintro e w16 ⟨rfl, hb16⟩; obtain ⟨hc16, hf16⟩ := bcell hb16; obtain ⟨_, _, _, _, _, _, hz16_P⟩ : M6 (w.heap.size) w16 Af cf F.length Ag cg G.length mem pages most start := M6.below (by constructor <;> first | (go_simp; done) | omega | (simp; omega)) hb16; obtain ⟨_, _, _, hz16_W⟩ : SC (w3.heap.size) w16 m d A3 xs.length c3 := SC.below (by constructor <;> first | (go_simp; done) | omega | (simp; omega)) hb16; obtain ⟨_, _, _, _, _, _, hz16_U⟩ : M6 (w4.heap.size) w16 A4 c4 F.length D4 d4 G.length mem pages most start := M6.below (by constructor <;> first | (go_simp; done) | omega | (simp; omega)) hb16; obtain ⟨_, _, _, hz16_V⟩ : SC (w5.heap.size) w16 m d A5 xs.length c5 := SC.below (by constructor <;> first | (go_simp; done) | omega | (simp; omega)) hb16; obtain ⟨_, _, _, hz16_H⟩ : SC (w14.heap.size) w16 m d A14 xs.length c14 := SC.below (by constructor <;> first | (go_simp; done) | omega | (simp; omega)) hb16) | (go_at_call 16; (fail_if_success (have _ := hb15)); have _ := hb14; (with_reducible refine (ce2 A14 c14 A3 c3 _ (Kd.C_below (Kd.R_reads' R14.out).2.2 (by with_reducible repeat first | exact Below.refl _ _ | refine below_alloc ?_ _ | refine below_drew1 ?_ | refine pw_below_drewN ?_ _ | refine below_set ?_ (by omega))) (Kd.C_below (Kd.R_reads' R11b.out).2.2 (by with_reducible repeat first | exact Below.refl _ _ | refine below_alloc ?_ _ | refine below_drew1 ?_ | refine pw_below_drewN ?_ _ | refine below_set ?_ (by omega) | refine below_step ?_ hb14 | refine below_step ?_ hb13 | refine below_step ?_ hb12))).mono ?_); rintro e w15 ⟨rfl, hb15⟩; obtain ⟨hc15, hf15⟩ := bcell hb15; obtain ⟨_, _, _, _, _, _, hz15_P⟩ : M6 (w.heap.size) w15 Af cf F.length Ag cg G.length mem pages most start := M6.below (by constructor <;> first | (go_simp; done) | omega | (simp; omega)) hb15; obtain ⟨_, _, _, hz15_W⟩ : SC (w3.heap.size) w15 m d A3 xs.length c3 := SC.below (by constructor <;> first | (go_simp; done) | omega | (simp; omega)) hb15; obtain ⟨_, _, _, _, _, _, hz15_U⟩ : M6 (w4.heap.size) w15 A4 c4 F.length D4 d4 G.length mem pages most start := M6.below (by constructor <;> first | (go_simp; done) | omega | (simp; omega)) hb15; obtain ⟨_, _, _, hz15_V⟩ : SC (w5.heap.size) w15 m d A5 xs.length c5 := SC.below (by constructor <;> first | (go_simp; done) | omega | (simp; omega)) hb15; obtain ⟨_, _, _, hz15_H⟩ : SC (w14.heap.size) w15 m d A14 xs.length c14 := SC.below (by constructor <;> first | (go_simp; done) | omega | (simp; omega)) hb15) | (go_at_call 20; (fail_if_success (have _ := hb14)); have _ := hb13; (with_reducible refine (ci A13 c13 D13 d13 _ (R13.out.below (by with_reducible repeat first | exact Below.refl _ _ | refine below_alloc ?_ _ | refine below_drew1 ?_ | refine pw_below_drewN ?_ _ | refine below_set ?_ (by omega)))).mono ?_); rintro e w14 ⟨A14, c14, rfl, R14, hb14⟩; obtain ⟨hc14, hf14⟩ := bcell hb14; obtain ⟨_, _, _, _, _, _, hz14_P⟩ : M6 (w.heap.size) w14 Af cf F.length Ag cg G.length mem pages most start := M6.below (by constructor <;> first | (go_simp; done) | omega | (simp; omega)) hb14; obtain ⟨_, _, _, hz14_W⟩ : SC (w3.heap.size) w14 m d A3 xs.length c3 := SC.below (by constructor <;> first | (go_simp; done) | omega | (simp; omega)) hb14; obtain ⟨_, _, _, _, _, _, hz14_U⟩ : M6 (w4.heap.size) w14 A4 c4 F.length D4 d4 G.length mem pages most start := M6.below (by constructor <;> first | (go_simp; done) | omega | (simp; omega)) hb14; obtain ⟨_, _, _, hz14_V⟩ : SC (w5.heap.size) w14 m d A5 xs.length c5 := SC.below (by constructor <;> first | (go_simp; done) | omega | (simp; omega)) hb14; replace R14 := Aside0.mk R14) | (go_at_call 12; (fail_if_success (have _ := hb13)); have _ := hb12; (with_reducible refine (ct _ (by have HHH := H11.out; with_reducible repeat first | exact HHH | refine below_alloc ?_ _ | refine below_drew1 ?_ | refine pw_below_drewN ?_ _ | refine below_set ?_ (by omega) | refine below_step ?_ hb12)).mono ?_); rintro e w13 ⟨A13, c13, D13, d13, rfl, R13, hb13⟩; obtain ⟨hc13, hf13⟩ := bcell hb13; obtain ⟨_, _, _, _, _, _, hz13_P⟩ : M6 (w.heap.size) w13 Af cf F.length Ag cg G.length mem pages most start := M6.below (by constructor <;> first | (go_simp; done) | omega | (simp; omega)) hb13; obtain ⟨_, _, _, hz13_W⟩ : SC (w3.heap.size) w13 m d A3 xs.length c3 := SC.below (by constructor <;> first | (go_simp; done) | omega | (simp; omega)) hb13; obtain ⟨_, _, _, _, _, _, hz13_U⟩ : M6 (w4.heap.size) w13 A4 c4 F.length D4 d4 G.length mem pages most start := M6.below (by constructor <;> first | (go_simp; done) | omega | (simp; omega)) hb13; obtain ⟨_, _, _, hz13_V⟩ : SC (w5.heap.size) w13 m d A5 xs.length c5 := SC.below (by constructor <;> first | (go_simp; done) | omega | (simp; omega)) hb13; replace R13 := Aside0.mk R13) | (go_at_call 23; (fail_if_success (have _ := hb12)); have _ := H11; (with_reducible refine (hdSt m d A5 c5 xs.length _ (Kd.C_below RC11.out (by with_reducible repeat first | exact Below.refl _ _ | refine below_alloc ?_ _ | refine below_drew1 ?_ | refine pw_below_drewN ?_ _ | refine below_set ?_ (by omega))) LX.out).mono ?_); rintro e w12 ⟨rfl, hb12⟩; obtain ⟨hc12, hf12⟩ := bcell hb12; obtain ⟨_, _, _, _, _, _, hz12_P⟩ : M6 (w.heap.size) w12 Af cf F.length Ag cg G.length mem pages most start := M6.below (by constructor <;> first | (go_simp; done) | omega | (simp; omega)) hb12; obtain ⟨_, _, _, hz12_W⟩ : SC (w3.heap.size) w12 m d A3 xs.length c3 := SC.below (by constructor <;> first | (go_simp; done) | omega | (simp; omega)) hb12; obtain ⟨_, _, _, _, _, _, hz12_U⟩ : M6 (w4.heap.size) w12 A4 c4 F.length D4 d4 G.length mem pages most start := M6.below (by constructor <;> first | (go_simp; done) | omega | (simp; omega)) hb12; obtain ⟨_, _, _, hz12_V⟩ : SC (w5.heap.size) w12 m d A5 xs.length c5 := SC.below (by constructor <;> first | (go_simp; done) | omega | (simp; omega)) hb12) | (go_at_call 22; (fail_if_success (have _ := H11)); have _ := hb10; (with_reducible refine (mkSt m d A5 c5 xs.length xs (w4.heap.size + 1) _ (Kd.R_below R9a.out (by with_reducible repeat first | exact Below.refl _ _ | refine below_alloc ?_ _ | refine below_drew1 ?_ | refine pw_below_drewN ?_ _ | refine below_set ?_ (by omega) | refine below_step ?_ hb10)) LX.out).mono ?_); rintro e w11 ⟨rfl, R11, hg11⟩; obtain ⟨_, _, _, _, _, _, hz11_P⟩ : M6 (w.heap.size) w11 Af cf F.length Ag cg G.length mem pages most start := M6.far (by constructor <;> first | (go_simp; done) | omega | (simp; omega)) ⟨hg11.block _ (by first | omega | (simp <;> omega)) (fun e => by have := HO5.out _ e.symm; omega), hg11.size⟩; obtain ⟨_, _, _, hz11_W⟩ : SC (w3.heap.size) w11 m d A3 xs.length c3 := SC.far (by constructor <;> first | (go_simp; done) | omega | (simp; omega)) ⟨hg11.block _ (by first | omega | (simp <;> omega)) (fun e => by have := HO5.out _ e.symm; omega), hg11.size⟩; obtain ⟨_, _, _, _, _, _, hz11_U⟩ : M6 (w4.heap.size) w11 A4 c4 F.length D4 d4 G.length mem pages most start := M6.far (by constructor <;> first | (go_simp; done) | omega | (simp; omega)) ⟨hg11.block _ (by first | omega | (simp <;> omega)) (fun e => by have := HO5.out _ e.symm; omega), hg11.size⟩; obtain ⟨_, _, _, hz11_V⟩ : SC (w5.heap.size) w11 m d A5 xs.length c5 := SC.far (by constructor <;> first | (go_simp; done) | omega | (simp; omega)) ⟨hg11.block _ (by first | omega | (simp <;> omega)) (fun e => by have := HO5.out _ e.symm; omega), hg11.size⟩; have R11b := Aside0.mk (R_gr R9b.out (by with_reducible repeat first | exact Below.refl _ _ | refine below_alloc ?_ _ | refine below_drew1 ?_ | refine pw_below_drewN ?_ _ | refine below_set ?_ (by omega) | refine below_step ?_ hb10) hg11 (fun k h => by have := HO5.out _ h; omega)); have H11 := Aside0.mk (Gr.below (w := w) (by have HHH := H9.out; with_reducible repeat first | exact HHH | refine below_alloc ?_ _ | refine below_drew1 ?_ | refine pw_below_drewN ?_ _ | refine below_set ?_ (by omega) | refine below_step ?_ hb10) hg11 (fun k h => by have := HO5.out _ h; omega) (Nat.le_refl _)); have RC11 : Aside0 (Kd.C kW w11 A5 xs.length (mkL 1 xs.length)) := ⟨by have h := (Kd.R_reads' R11).2.2; rw [mkL_len] at h; exact h⟩; clear hg11 R11) | (go_at_call 16; (fail_if_success (have _ := hb10)); have _ := H9; (with_reducible refine (ce2 A5 c5 A3 c3 _ (Kd.C_below (Kd.R_reads' R9a.out).2.2 (by with_reducible repeat first | exact Below.refl _ _ | refine below_alloc ?_ _ | refine below_drew1 ?_ | refine pw_below_drewN ?_ _ | refine below_set ?_ (by omega))) (Kd.C_below (Kd.R_reads' R9b.out).2.2 (by with_reducible repeat first | exact Below.refl _ _ | refine below_alloc ?_ _ | refine below_drew1 ?_ | refine pw_below_drewN ?_ _ | refine below_set ?_ (by omega)))).mono ?_); rintro e w10 ⟨rfl, hb10⟩; obtain ⟨hc10, hf10⟩ := bcell hb10; obtain ⟨_, _, _, _, _, _, hz10_P⟩ : M6 (w.heap.size) w10 Af cf F.length Ag cg G.length mem pages most start := M6.below (by constructor <;> first | (go_simp; done) | omega | (simp; omega)) hb10; obtain ⟨_, _, _, hz10_W⟩ : SC (w3.heap.size) w10 m d A3 xs.length c3 := SC.below (by constructor <;> first | (go_simp; done) | omega | (simp; omega)) hb10; obtain ⟨_, _, _, _, _, _, hz10_U⟩ : M6 (w4.heap.size) w10 A4 c4 F.length D4 d4 G.length mem pages most start := M6.below (by constructor <;> first | (go_simp; done) | omega | (simp; omega)) hb10; obtain ⟨_, _, _, hz10_V⟩ : SC (w5.heap.size) w10 m d A5 xs.length c5 := SC.below (by constructor <;> first | (go_simp; done) | omega | (simp; omega)) hb10) | (go_at_call 21; (fail_if_success (have _ := H9)); have _ := hb8; (with_reducible refine (mkMd A4 c4 F D4 d4 G mem pages most start B4 w4.heap.size _ (FsK.keep FK4.out.1 (Mk.of_below (B := 0) (E := 0) (by with_reducible repeat first | exact Below.refl _ _ | refine below_alloc ?_ _ | refine below_drew1 ?_ | refine pw_below_drewN ?_ _ | refine below_set ?_ (by omega) | refine below_step ?_ hb8 | refine below_step ?_ hb7 | refine below_step ?_ hb6 | refine below_step ?_ hb5))) (RowK.keep FK4.out.2 (Mk.of_below (B := 0) (E := 0) (by with_reducible repeat first | exact Below.refl _ _ | refine below_alloc ?_ _ | refine below_drew1 ?_ | refine pw_below_drewN ?_ _ | refine below_set ?_ (by omega) | refine below_step ?_ hb8 | refine below_step ?_ hb7 | refine below_step ?_ hb6 | refine below_step ?_ hb5))) (by first | omega | (simp <;> omega)) LF.out LG.out).mono ?_); rintro e w9 ⟨k9, rfl, hk9, hm9⟩; obtain ⟨_, _, _, _, _, _, hz9_P⟩ : M6 (w.heap.size) w9 Af cf F.length Ag cg G.length mem pages most start := M6.far (by constructor <;> first | (go_simp; done) | omega | (simp; omega)) ⟨hm9.far _ (by first | omega | (simp <;> omega)) (.inl (by omega)), hm9.size⟩; obtain ⟨_, _, _, hz9_W⟩ : SC (w3.heap.size) w9 m d A3 xs.length c3 := SC.far (by constructor <;> first | (go_simp; done) | omega | (simp; omega)) ⟨hm9.far _ (by first | omega | (simp <;> omega)) (.inl (by omega)), hm9.size⟩; obtain ⟨_, _, _, _, _, _, hz9_U⟩ : M6 (w4.heap.size) w9 A4 c4 F.length D4 d4 G.length mem pages most start := M6.far (by constructor <;> first | (go_simp; done) | omega | (simp; omega)) ⟨hm9.far _ (by first | omega | (simp <;> omega)) (.inr (by omega)), hm9.size⟩; obtain ⟨_, _, _, hz9_V⟩ : SC (w5.heap.size) w9 m d A5 xs.length c5 := SC.far (by constructor <;> first | (go_simp; done) | omega | (simp; omega)) ⟨hm9.far _ (by first | omega | (simp <;> omega)) (.inr (by omega)), hm9.size⟩; have hd9 : decide (k9 < 0) = false := decide_eq_false (by omega); have R9a := Aside0.mk (R_mk R5.out (by with_reducible repeat first | exact Below.refl _ _ | refine below_alloc ?_ _ | refine below_drew1 ?_ | refine pw_below_drewN ?_ _ | refine below_set ?_ (by omega) | refine below_step ?_ hb8 | refine below_step ?_ hb7 | refine below_step ?_ hb6) hm9 (by omega)); have R9b := Aside0.mk (R_old R3.out (by with_reducible repeat first | exact Below.refl _ _ | refine below_alloc ?_ _ | refine below_drew1 ?_ | refine pw_below_drewN ?_ _ | refine below_set ?_ (by omega) | refine below_step ?_ hb8 | refine below_step ?_ hb7 | refine below_step ?_ hb6 | refine below_step ?_ hb5 | refine below_step ?_ hb4) hm9 (by omega)); have H9 := Aside0.mk (Mk.below (w := w) (by with_reducible repeat first | exact Below.refl _ _ | refine below_alloc ?_ _ | refine below_drew1 ?_ | refine pw_below_drewN ?_ _ | refine below_set ?_ (by omega) | refine below_step ?_ hb8 | refine below_step ?_ hb7 | refine below_step ?_ hb6 | refine below_step ?_ hb5 | refine below_step ?_ hb4 | refine below_step ?_ hb3 | refine below_step ?_ hb2 | refine below_step ?_ hb1) hm9 (by omega) (Nat.le_refl _)); clear hm9 hk9))
    refine bodyPost_ret (v := .bool true) (by simp [results, Try.results5, go_sem]) rfl ⟨rfl, ?_⟩
    exact (by have HHH := H11.out; with_reducible repeat first | exact HHH | refine below_alloc ?_ _ | refine below_drew1 ?_ | refine pw_below_drewN ?_ _ | refine below_set ?_ (by omega) | refine below_step ?_ hb16 | refine below_step ?_ hb15 | refine below_step ?_ hb14 | refine below_step ?_ hb13 | refine below_step ?_ hb12)
end Go.Proofs.Ytfhnffondamhdaa.OwnFiL
