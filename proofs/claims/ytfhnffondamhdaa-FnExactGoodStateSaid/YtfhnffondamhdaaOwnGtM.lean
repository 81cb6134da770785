/- Words and states: sizes, copies, comparisons, what is good of a word and of a memory: walks of our own. States: size, copy, comparison: walks of our own. GoodState: what it says, and both sides' walks. GoodState, the reference: a walk of our own. GoodState: the law, by a walk of our own. -/
import Derived.Test.YtfhnffondamhdaaOwnBase
import Derived.Deep.RegionHeldLaw
namespace Go.Proofs.Ytfhnffondamhdaa.OwnWd
open Go Go.RowKit Go.Proofs.YtfhnffondamhdaaW.PrintWords Go.Proofs.YtfhnffondamhdaaW.PrintLast Go.Proofs.YtfhnffondamhdaaW.PrintMore Go.Proofs.Ytfhnffondamhdaa.OwnBs Go.Proofs.Ytfhnffondamhdaa.OwnKp Go.Proofs.Ytfhnffondamhdaa.OwnCode Go.Proofs.Ytfhnffondamhdaa.OwnSt Go.Proofs.Ytfhnffondamhdaa.OwnFn Go.Proofs.Ytfhnffondamhdaa.OwnTo Go.Proofs.Ytfhnffondamhdaa.OwnSz Go.Proofs.Ytfhnffondamhdaa.OwnFs Go.Proofs.Ytfhnffondamhdaa.OwnMd Go.Proofs.Ytfhnffondamhdaa.OwnGs
set_option linter.unusedVariables false
set_option linter.unusedSimpArgs false
abbrev kW : Kd (Int × Int) := Kd.pair (Kd.int .i64) (Kd.int .u64)

theorem at_wd {w : World} {A : Option Addr} {n : Nat} {l : List (Int × Int)} (h : Kd.C kW w A n l) (i : Nat) (hi : i < l.length) : ∃ ad, A = some ad ∧ w.cell? (ad.add (i * 2)) = some (.int .i64 l[i].1) ∧ w.cell? ⟨(ad.add (i * 2)).block, (ad.add (i * 2)).off + 1, none⟩ = some (.int .u64 l[i].2) := by
  obtain ⟨h1, h2, h3⟩ := h
  obtain ⟨ad, e, h4⟩ := h3 (by omega)
  obtain ⟨c, hc, hk, hu⟩ := h4 i l[i] (List.getElem?_eq_getElem hi)
  obtain ⟨_, _, rfl, rfl, rfl⟩ := hk
  exact ⟨ad, e, hu 0 _ rfl, by rw [← add_field ad (i * 2) 1 (by decide)]; exact hu 1 _ rfl⟩

set_option maxRecDepth 100000 in
set_option maxHeartbeats 8000000 in
theorem toWd1 (x : Int × Int) (w : World) : Calls Try.prog 80 #[.agg #[.int .i64 x.1, .int .u64 x.2]] w fun e w' => e = .returned (.agg #[.int .i64 x.1, .int .u64 x.2]) ∧ Below w.heap.size w w' := by
  go_enter Try.func80, Try.ntmps80
  go_wp2
  refine bodyPost_ret (v := .agg #[.int .i64 x.1, .int .u64 x.2]) (by simp [results, Try.results80, go_sem]) rfl ⟨rfl, ?_⟩
  with_reducible repeat first | exact Below.refl _ _ | refine below_alloc ?_ _ | refine below_drew1 ?_ | refine pw_below_drewN ?_ _ | refine below_set ?_ (by first | omega | simp)

theorem toWdM (w : World) (base : Nat) (ok : Nat → Prop) (x : Int × Int) : Kd.M kW w base ok x [.int .i64 x.1, .int .u64 x.2] := ⟨[.int .i64 x.1], [.int .u64 x.2], rfl, rfl, rfl⟩
theorem toWdO {w : World} {base : Nat} {ok : Nat → Prop} {x : Int × Int} {cs : List Value} (h : Kd.M kW w base ok x cs) : cs = [.int .i64 x.1, .int .u64 x.2] := by
  obtain ⟨_, _, rfl, rfl, rfl⟩ := h
  exact rfl
theorem toWdI : (Try.prog.info? 76).map (fun i => (i.zero, i.size, i.bytes)) = some (some (.agg #[(.int .i64 0), (.int .u64 0)]), 2, 16) := by kernel_rfl
set_option maxRecDepth 100000 in
set_option maxHeartbeats 8000000 in
theorem toWd (A : Option Addr) (c : Nat) (l : List (Int × Int)) (w : World) (hr : Kd.C kW w A l.length l) (hl : l.length ≤ 1048576) : Calls Try.prog 42 #[.slice A l.length c] w fun e w' => ∃ A' c', e = .returned (.slice A' l.length c') ∧ Kd.R kW 76 w' w.heap.size (fun _ => True) (.slice A' l.length c') l ∧ Below w.heap.size w w' := by
  have HR0 := Aside0.mk hr
  have HL := Aside0.mk hl
  have c2 : 0 ≤ (l.length : Int) := by omega
  clear hr hl
  go_enter Try.func42, Try.ntmps42
  go_wp2_with ((with_reducible refine gate_dst (N := 7) rfl ?_); refine Kd.R_make kW _ 76 rfl (N := 7) rfl 40 _ _ rfl (l.length : Int) rfl rfl Try.underlying40 (.agg #[(.int .i64 0), (.int .u64 0)]) 16 toWdI rfl (by decide) (by omega) (0, 0) (ok := fun _ => True) (okp := fun _ => True) (toWdM _ _ _ (0, 0)) (fun _ hk => hk) trivial c2 (by simp only [Int.toNat_natCast]; have := HL.out; omega) (Below.refl _ _) (Nat.le_refl _) ?_; intro v1 w1 ho hb hg hn; clear hg hn)
  have H0 : Aside0 (Kd.R kW 76 w1 w.heap.size (fun _ => True) v1 (List.replicate l.length (0, 0))) := ⟨by have := ho; simpa using this⟩
  have HB0 := Aside0.mk hb
  obtain ⟨A1, d1, e1⟩ := Kd.R_slice H0.out
  rw [List.length_replicate] at e1
  subst e1
  clear ho hb
  go_loopg [4] l.length (fun kq v4 w' => ∃ (xs : List (Int × Int)) (x4 : Int), v4 = .int .i64 x4 ∧ Aside0 (0 ≤ x4 ∧ x4 + kq = l.length) ∧ Aside0 (xs.length = l.length ∧ ∀ j : Nat, j < x4.toNat → xs[j]? = l[j]?) ∧ Aside0 (Kd.R kW 76 w' w.heap.size (fun _ => True) (.slice A1 l.length d1) xs) ∧ Aside0 (Below w.heap.size w w'))
  case atStart => exact ⟨_, 0, rfl, ⟨by omega⟩, ⟨List.length_replicate .., fun j h => absurd h (Nat.not_lt_zero _)⟩, H0, HB0⟩
  case round =>
    clear H0 HB0
    obtain ⟨xs, x4, rfl, HI, HX, HO, HB⟩ := hrel
    cases gk with
    | zero =>
      have hd : decide (x4 < (l.length : Int)) = false := decide_eq_false (by have := HI.out; omega)
      go_wp2
      go_ret
      obtain rfl : xs = l := by
        refine List.ext_getElem? fun j => ?_
        by_cases h : j < l.length
        · exact HX.out.2 j (by have := HI.out; omega)
        · rw [List.getElem?_eq_none (by have := HX.out.1; omega), List.getElem?_eq_none (by omega)]
      exact ⟨_, _, rfl, HO.out, HB.out⟩
    | succ k1 =>
      have q1 : (0 : Int) ≤ x4 := HI.out.1
      have q2 : x4 < (l.length : Int) := by have := HI.out; omega
      have hd : decide (x4 < (l.length : Int)) = true := decide_eq_true q2
      have hil : x4.toNat < l.length := by omega
      obtain ⟨ad, e1, hx0, hx1⟩ := at_wd HR0.out x4.toNat hil
      subst e1
      replace hx0 := (HB.out.cell (World.block_lt_of_cell? w _ hx0)).trans hx0
      replace hx1 := (HB.out.cell (World.block_lt_of_cell? w _ hx1)).trans hx1
      have HS := Aside0.mk (fun j (h : j < (x4 + 1).toNat)  => (show (xs.set x4.toNat l[x4.toNat])[j]? = l[j]? from by
        rw [List.getElem?_set]
        split
        · rename_i e; subst e; rw [if_pos (by have := HX.out.1; omega), List.getElem?_eq_getElem hil]
        · exact HX.out.2 j (by omega)))
      have HSl := Aside0.mk ((List.length_set ..).trans HX.out.1 : (xs.set x4.toNat l[x4.toNat]).length = l.length)
      have ew : IntKind.i64.wrap (x4 + 1) = x4 + 1 := by rw [IntKind.wrap_i64]; have := HL.out; omega
      obtain ⟨go, co, eo, gb, gl, cl, HG⟩ := Kd.R_form HO.out (by have := HX.out.1; omega)
      injection eo with ea en ec
      subst ea; subst ec
      have GB := Aside0.mk gb
      have GL := Aside0.mk gl
      clear en gl gb HG HX
      generalize l[x4.toNat] = x at *
      have cg := fun W => toWd1 x W
      go_wp2_with (go_at_call 80; (with_reducible refine (cg _).mono ?_); rintro e w2 ⟨rfl, hb2⟩; have HO2 := Aside0.mk (Kd.R_below HO.out hb2); have HB2 := Aside0.mk (below_step HB.out hb2); obtain ⟨ce, hcl, hM, hcc, hfr⟩ := Kd.R_elem HO2.out (0, 0) x4 q1 q2; obtain rfl := toWdO hM; have HP := Aside0.mk (Kd.R_seg HO2.out x4 q1 q2 (seg := [.int .i64 x.1, .int .u64 x.2]) (j := 0) hcl hcc (show 2 ≤ 2 from by decide) (x' := x) (toWdM _ _ _ x) (fun _ hk => hk)).1; have hy0 := hcc 0 _ rfl; have hf0 := hfr 0; try simp only [show Kd.sz kW = 2 from rfl, Nat.add_zero] at hy0 hf0; have hy1 := hcc 1 _ rfl; have hf1 := hfr 1; try simp only [show Kd.sz kW = 2 from rfl, Nat.add_zero] at hy1 hf1; clear hcl hcc hfr hM hb2)
      go_roundg k1
      case measure => omega
      case rel => exact ⟨_, x4 + 1, rfl, ⟨by have := HI.out; omega⟩, ⟨HSl.out, HS.out⟩, ⟨HP.out⟩, ⟨below_set (below_set (HB2.out) GB.out) GB.out⟩⟩

set_option maxRecDepth 100000 in
set_option maxHeartbeats 8000000 in
theorem szWd (A : Option Addr) (n c : Nat) (a : Int) (w : World) : Calls Try.prog 36 #[.slice A n c, .int .i64 a] w fun e w' => e = .returned (.int .i64 (leftM n a)) ∧ Below w.heap.size w w' := by
  unfold leftM
  by_cases z : wrap64 (a - n) < 0
  · have hd : decide (wrap64 (a - n) < 0) = true := decide_eq_true z
    rw [if_pos z]
    clear z
    go_enter Try.func36, Try.ntmps36
    go_wp2
    go_ret
    exact ⟨by first | rfl | (simp; done), by with_reducible repeat first | exact Below.refl _ _ | refine below_alloc ?_ _ | refine below_drew1 ?_ | refine pw_below_drewN ?_ _⟩
  · have hd : decide (wrap64 (a - n) < 0) = false := decide_eq_false z
    rw [if_neg z]
    clear z
    go_enter Try.func36, Try.ntmps36
    go_wp2
    go_ret
    exact ⟨by first | rfl | (simp; done), by with_reducible repeat first | exact Below.refl _ _ | refine below_alloc ?_ _ | refine below_drew1 ?_ | refine pw_below_drewN ?_ _⟩

set_option maxRecDepth 100000 in
set_option maxHeartbeats 8000000 in
theorem eqWd1 (x0 : Int) (x1 : Int) (w : World) : Calls Try.prog 83 #[.agg #[.int .i64 x0, .int .u64 x1], .agg #[.int .i64 x0, .int .u64 x1]] w fun e w' => e = .returned (.bool true) ∧ Below w.heap.size w w' := by
  go_enter Try.func83, Try.ntmps83
  go_wp2
  go_ret
  exact ⟨rfl, by with_reducible repeat first | exact Below.refl _ _ | refine below_alloc ?_ _ | refine below_drew1 ?_ | refine pw_below_drewN ?_ _⟩
set_option maxRecDepth 100000 in
set_option maxHeartbeats 8000000 in
theorem eqWd (A : Option Addr) (c : Nat) (A' : Option Addr) (c' : Nat) (l : List (Int × Int)) (w : World) (hr : Kd.C kW w A l.length l) (hr' : Kd.C kW w A' l.length l) (hl : l.length ≤ 1048576) : Calls Try.prog 48 #[.slice A l.length c, .slice A' l.length c'] w fun e w' => e = .returned (.bool true) ∧ Below w.heap.size w w' := by
  have HR := Aside0.mk hr
  have HR' := Aside0.mk hr'
  clear hr hr'
  go_enter Try.func48, Try.ntmps48
  go_wp2
  go_loopg [5] l.length (fun kq v5 w' => ∃ i : Nat, i + kq = l.length ∧ v5 = .int .i64 i ∧ Aside0 (Below w.heap.size w w'))
  case atStart => exact ⟨0, by omega, rfl, ⟨Below.refl _ _⟩⟩
  case round =>
    obtain ⟨i, hi, rfl, HB⟩ := hrel
    cases gk with
    | zero =>
      obtain rfl : i = l.length := by omega
      have hd : decide ((l.length : Int) < (l.length : Int)) = false := decide_eq_false (by omega)
      go_wp2
      go_ret
      exact ⟨rfl, HB.out⟩
    | succ k1 =>
      have hil : i < l.length := by omega
      have hia : (i : Int) < (l.length : Int) := by omega
      have hd : decide ((i : Int) < (l.length : Int)) = true := decide_eq_true (by omega)
      obtain ⟨ad, e1, hx0, hx1⟩ := at_wd HR.out i hil
      obtain ⟨ad', e2, hy0, hy1⟩ := at_wd HR'.out i hil
      subst e1; subst e2
      replace hx0 := (HB.out.cell (World.block_lt_of_cell? w _ hx0)).trans hx0
      replace hx1 := (HB.out.cell (World.block_lt_of_cell? w _ hx1)).trans hx1
      replace hy0 := (HB.out.cell (World.block_lt_of_cell? w _ hy0)).trans hy0
      replace hy1 := (HB.out.cell (World.block_lt_of_cell? w _ hy1)).trans hy1
      have lq0 := World.block_lt_of_cell? wr _ hx0
      have lq1 := World.block_lt_of_cell? wr _ hx1
      have lq2 := World.block_lt_of_cell? wr _ hy0
      have lq3 := World.block_lt_of_cell? wr _ hy1
      generalize l[i] = x at *
      obtain ⟨x0, x1⟩ := x
      simp only at hx0 hx1 hy0 hy1
      have cg := fun W => eqWd1 x0 x1 W
      have q1 : (0 : Int) ≤ (i : Int) := by omega
      have ew : IntKind.i64.wrap ((i : Int) + 1) = (i : Int) + 1 := by rw [IntKind.wrap_i64]; omega
      go_wp2
      go_region_held_law (fun w' => w'.cell? (ad.add (i * 2)) = some (.int .i64 x0) ∧ w'.cell? ⟨(ad.add (i * 2)).block, (ad.add (i * 2)).off + 1, none⟩ = some (.int .u64 x1) ∧ w'.cell? (ad'.add (i * 2)) = some (.int .i64 x0) ∧ w'.cell? ⟨(ad'.add (i * 2)).block, (ad'.add (i * 2)).off + 1, none⟩ = some (.int .u64 x1)) (refine ⟨?_, ?_, ?_, ?_⟩ <;> go_simp) (first | (go_at_call 83; (with_reducible refine (cg _).mono ?_); rintro e w2 ⟨rfl, hb2⟩; obtain ⟨hc2, hf2⟩ := bcell hb2; have j0 : w2.cell? (ad.add (i * 2)) = some (.int .i64 x0) := (by rw [hb2.cell (by first | exact lq0 | (simp; exact lq0))]; go_simp); have j1 : w2.cell? ⟨(ad.add (i * 2)).block, (ad.add (i * 2)).off + 1, none⟩ = some (.int .u64 x1) := (by rw [hb2.cell (by first | exact lq1 | (simp; exact lq1))]; go_simp); have j2 : w2.cell? (ad'.add (i * 2)) = some (.int .i64 x0) := (by rw [hb2.cell (by first | exact lq2 | (simp; exact lq2))]; go_simp); have j3 : w2.cell? ⟨(ad'.add (i * 2)).block, (ad'.add (i * 2)).off + 1, none⟩ = some (.int .u64 x1) := (by rw [hb2.cell (by first | exact lq3 | (simp; exact lq3))]; go_simp)))
      all_goals
        first | (rename_i kk; refine kk _ _ ?_) | (rename_i kk _; refine kk _ _ ?_) | skip
        go_wp2
        go_roundg k1
        case measure => omega
        case rel => exact ⟨i + 1, by omega, by rw [Int.natCast_add]; rfl, ⟨below_step HB.out (by with_reducible repeat first | exact Below.refl _ _ | refine below_alloc ?_ _ | refine below_drew1 ?_ | refine pw_below_drewN ?_ _ | refine below_step ?_ hb2)⟩⟩

set_option maxRecDepth 100000 in
set_option maxHeartbeats 8000000 in
theorem szMm (m : Int) (d : ByteArray) (a : Int) (w : World) : Calls Try.prog 35 #[.agg #[.int .i64 m, .string d], .int .i64 a] w fun e w' => e = .returned (.int .i64 (leftM d.size a)) ∧ Below w.heap.size w w' := by
  unfold leftM
  generalize hR : (if wrap64 (a - d.size) < 0 then (-1 : Int) else wrap64 (a - d.size)) = R
  have K : (decide (wrap64 (a - d.size) < 0) = true ∧ R = -1) ∨ (decide (wrap64 (a - d.size) < 0) = false ∧ R = wrap64 (a - d.size)) := by
    simp only [decide_eq_true_eq, decide_eq_false_iff_not]
    omega
  clear hR
  rcases K with ⟨d1, rfl⟩ | ⟨d1, rfl⟩
  all_goals
    go_enter Try.func35, Try.ntmps35
    go_wp2
    go_ret
    exact ⟨by first | rfl | (simp; done), by with_reducible repeat first | exact Below.refl _ _ | refine below_alloc ?_ _ | refine below_drew1 ?_ | refine pw_below_drewN ?_ _⟩
theorem toMm (m : Int) (d : ByteArray) (w : World) : Calls Try.prog 41 #[.agg #[.int .i64 m, .string d]] w fun e w' => e = .returned (.agg #[.int .i64 m, .string d]) ∧ Below w.heap.size w w' := by
  go_enter Try.func41, Try.ntmps41
  go_wp2
  refine bodyPost_ret (v := .agg #[.int .i64 m, .string d]) (by simp [results, Try.results41, go_sem]) rfl ⟨rfl, ?_⟩
  with_reducible repeat first | exact Below.refl _ _ | refine below_alloc ?_ _ | refine below_drew1 ?_ | refine pw_below_drewN ?_ _ | refine below_set ?_ (by first | omega | simp)
theorem eqMm (m : Int) (d : ByteArray) (w : World) : Calls Try.prog 47 #[.agg #[.int .i64 m, .string d], .agg #[.int .i64 m, .string d]] w fun e w' => e = .returned (.bool true) ∧ Below w.heap.size w w' := by
  go_enter Try.func47, Try.ntmps47
  go_wp2
  go_ret
  exact ⟨rfl, by with_reducible repeat first | exact Below.refl _ _ | refine below_alloc ?_ _ | refine below_drew1 ?_ | refine pw_below_drewN ?_ _⟩

/-- What is good of a word. -/
def wdB (g : Int × Int) : Bool := tyB g.1 && (decide (g.1 = 126) || decide (g.2 ≤ 4294967295))

set_option maxRecDepth 100000 in
set_option maxHeartbeats 8000000 in
theorem wd_i (x0 x1 : Int) (w : World) : Calls Try.prog 44 #[.agg #[.int .i64 x0, .int .u64 x1]] w fun e w' => e = .returned (.bool (wdB (x0, x1))) ∧ Below w.heap.size w w' := by
  have ct := fun W => ty_i x0 W
  generalize hR : wdB (x0, x1) = R
  have K : (tyB x0 = false ∧ R = false) ∨ (tyB x0 = true ∧ x0 = 126 ∧ R = true) ∨ (tyB x0 = true ∧ (x0 == 126) = false ∧ decide (x1 < 4294967296) = true ∧ R = true) ∨ (tyB x0 = true ∧ (x0 == 126) = false ∧ decide (x1 < 4294967296) = false ∧ R = false) := by
    subst hR
    unfold wdB
    simp only
    cases tyB x0 with
    | false => exact .inl ⟨rfl, rfl⟩
    | true =>
      by_cases h : x0 = 126
      · exact .inr (.inl ⟨rfl, h, by rw [decide_eq_true h]; rfl⟩)
      · by_cases g : x1 ≤ 4294967295
        · exact .inr (.inr (.inl ⟨rfl, beq_eq_false_iff_ne.2 h, decide_eq_true (by omega), by rw [decide_eq_true g, Bool.or_true]; rfl⟩))
        · exact .inr (.inr (.inr ⟨rfl, beq_eq_false_iff_ne.2 h, decide_eq_false (by omega), by rw [decide_eq_false h, decide_eq_false g]; rfl⟩))
  clear hR
  rcases K with ⟨d0, rfl⟩ | ⟨d0, rfl, rfl⟩ | ⟨d0, d1, d2, rfl⟩ | ⟨d0, d1, d2, rfl⟩
  all_goals
    rw [d0] at ct
    clear d0
    go_enter Try.func44, Try.ntmps44
    go_wp2_with (go_at_call 81; (with_reducible refine (ct _).mono ?_); rintro e w1 ⟨rfl, hb1⟩; obtain ⟨hc1, hf1⟩ := bcell hb1; have hz1 : w.heap.size < w1.heap.size := (by have := hb1.size; first | omega | (simp at this; omega)))
    go_ret
    exact ⟨rfl, by with_reducible repeat first | exact Below.refl _ _ | refine below_alloc ?_ _ | refine below_drew1 ?_ | refine pw_below_drewN ?_ _ | refine below_step ?_ hb1⟩

set_option maxRecDepth 100000 in
set_option maxHeartbeats 8000000 in
theorem wd_s (x0 x1 : Int) (w : World) : Calls Try.prog 37 #[.agg #[.int .i64 x0, .int .u64 x1]] w fun e w' => e = .returned (.bool (wdB (x0, x1))) ∧ Below w.heap.size w w' := by
  have ct := fun W => ty_s x0 W
  generalize hR : wdB (x0, x1) = R
  have K : (tyB x0 = false ∧ R = false) ∨ (tyB x0 = true ∧ x0 = 126 ∧ R = true) ∨ (tyB x0 = true ∧ (x0 == 126) = false ∧ decide (x1 ≤ 4294967295) = true ∧ R = true) ∨ (tyB x0 = true ∧ (x0 == 126) = false ∧ decide (x1 ≤ 4294967295) = false ∧ R = false) := by
    subst hR
    unfold wdB
    simp only
    cases tyB x0 with
    | false => exact .inl ⟨rfl, rfl⟩
    | true =>
      by_cases h : x0 = 126
      · exact .inr (.inl ⟨rfl, h, by rw [decide_eq_true h]; rfl⟩)
      · by_cases g : x1 ≤ 4294967295
        · exact .inr (.inr (.inl ⟨rfl, beq_eq_false_iff_ne.2 h, decide_eq_true (by omega), by rw [decide_eq_true g, Bool.or_true]; rfl⟩))
        · exact .inr (.inr (.inr ⟨rfl, beq_eq_false_iff_ne.2 h, decide_eq_false (by omega), by rw [decide_eq_false h, decide_eq_false g]; rfl⟩))
  clear hR
  rcases K with ⟨d0, rfl⟩ | ⟨d0, rfl, rfl⟩ | ⟨d0, d1, d2, rfl⟩ | ⟨d0, d1, d2, rfl⟩
  all_goals
    rw [d0] at ct
    clear d0
    go_enter Try.func37, Try.ntmps37
    go_wp2_with (go_at_call 72; (with_reducible refine (ct _).mono ?_); rintro e w1 ⟨rfl, hb1⟩; obtain ⟨hc1, hf1⟩ := bcell hb1; have hz1 : w.heap.size < w1.heap.size := (by have := hb1.size; first | omega | (simp at this; omega)))
    go_ret
    exact ⟨rfl, by with_reducible repeat first | exact Below.refl _ _ | refine below_alloc ?_ _ | refine below_drew1 ?_ | refine pw_below_drewN ?_ _ | refine below_step ?_ hb1⟩

/-- What is good of a memory. -/
def mmB (m : Int) (n : Nat) : Bool := decide (0 ≤ m ∧ m ≤ 8 ∧ (n : Int) % 256 = 0 ∧ (n : Int) ≤ m * 256)

set_option maxRecDepth 100000 in
set_option maxHeartbeats 8000000 in
theorem mm_i (m : Int) (d : ByteArray) (w : World) (hd : d.size ≤ 1048576) : Calls Try.prog 43 #[.agg #[.int .i64 m, .string d]] w fun e w' => e = .returned (.bool (mmB m d.size)) ∧ Below w.heap.size w w' := by
  generalize hR : mmB m d.size = R
  have ew : 0 ≤ m → m ≤ 8 → wrap64 (m * 256) = m * 256 := fun h1 h2 => Pl.w64 (by omega) (by omega)
  have K : (decide (0 ≤ m) = false ∧ R = false) ∨ (decide (0 ≤ m) = true ∧ decide (m ≤ 8) = false ∧ R = false) ∨ (decide (0 ≤ m) = true ∧ decide (m ≤ 8) = true ∧ ((d.size : Int) % 256 == 0) = false ∧ R = false) ∨ (decide (0 ≤ m) = true ∧ decide (m ≤ 8) = true ∧ (d.size : Int) % 256 = 0 ∧ R = decide ((d.size : Int) ≤ wrap64 (m * 256))) := by
    subst hR
    unfold mmB
    by_cases h1 : 0 ≤ m
    · by_cases h2 : m ≤ 8
      · by_cases h3 : (d.size : Int) % 256 = 0
        · refine .inr (.inr (.inr ⟨decide_eq_true h1, decide_eq_true h2, h3, ?_⟩))
          rw [decide_eq_decide, ew h1 h2]
          omega
        · exact .inr (.inr (.inl ⟨decide_eq_true h1, decide_eq_true h2, beq_eq_false_iff_ne.2 h3, decide_eq_false (by omega)⟩))
      · exact .inr (.inl ⟨decide_eq_true h1, decide_eq_false h2, decide_eq_false (by omega)⟩)
    · exact .inl ⟨decide_eq_false h1, decide_eq_false (by omega)⟩
  clear hR ew
  rcases K with ⟨d0, rfl⟩ | ⟨d0, d1, rfl⟩ | ⟨d0, d1, d2, rfl⟩ | ⟨d0, d1, d2, rfl⟩
  all_goals
    go_enter Try.func43, Try.ntmps43
    go_wp2
    go_ret
    exact ⟨rfl, by with_reducible repeat first | exact Below.refl _ _ | refine below_alloc ?_ _ | refine below_drew1 ?_ | refine pw_below_drewN ?_ _⟩
theorem mm_s (m : Int) (d : ByteArray) (w : World) (hd : d.size ≤ 1048576) : Calls Try.prog 38 #[.agg #[.int .i64 m, .string d]] w fun e w' => e = .returned (.bool (mmB m d.size)) ∧ Below w.heap.size w w' := by
  generalize hR : mmB m d.size = R
  have ci := fun W => in_n m 0 8 W
  have ew : 0 ≤ m → m ≤ 8 → wrap64 (m * 256) = m * 256 := fun h1 h2 => Pl.w64 (by omega) (by omega)
  have K : (decide (0 ≤ m ∧ m ≤ 8) = false ∧ R = false) ∨ (decide (0 ≤ m ∧ m ≤ 8) = true ∧ ((d.size : Int) % 256 == 0) = false ∧ R = false) ∨ (decide (0 ≤ m ∧ m ≤ 8) = true ∧ (d.size : Int) % 256 = 0 ∧ R = decide ((d.size : Int) ≤ wrap64 (m * 256))) := by
    subst hR
    unfold mmB
    by_cases h1 : 0 ≤ m ∧ m ≤ 8
    · by_cases h3 : (d.size : Int) % 256 = 0
      · refine .inr (.inr ⟨decide_eq_true h1, h3, ?_⟩)
        rw [decide_eq_decide, ew h1.1 h1.2]
        omega
      · exact .inr (.inl ⟨decide_eq_true h1, beq_eq_false_iff_ne.2 h3, decide_eq_false (by omega)⟩)
    · exact .inl ⟨decide_eq_false h1, decide_eq_false (by omega)⟩
  clear hR ew
  rcases K with ⟨d0, rfl⟩ | ⟨d0, d2, rfl⟩ | ⟨d0, d2, rfl⟩
  all_goals
    rw [d0] at ci
    clear d0
    go_enter Try.func38, Try.ntmps38
    go_wp2_with (go_at_call 73; (with_reducible refine (ci _).mono ?_); rintro e w1 ⟨rfl, n1, rfl⟩)
    go_ret
    exact ⟨rfl, by with_reducible repeat first | exact Below.refl _ _ | refine below_alloc ?_ _ | refine below_drew1 ?_ | refine pw_below_drewN ?_ _⟩

end Go.Proofs.Ytfhnffondamhdaa.OwnWd
namespace Go.Proofs.Ytfhnffondamhdaa.OwnSs
open Go Go.RowKit Go.Proofs.YtfhnffondamhdaaW.PrintWords Go.Proofs.YtfhnffondamhdaaW.PrintLast Go.Proofs.YtfhnffondamhdaaW.PrintMore Go.Proofs.Ytfhnffondamhdaa.OwnBs Go.Proofs.Ytfhnffondamhdaa.OwnKp Go.Proofs.Ytfhnffondamhdaa.OwnCode Go.Proofs.Ytfhnffondamhdaa.OwnSt Go.Proofs.Ytfhnffondamhdaa.OwnFn Go.Proofs.Ytfhnffondamhdaa.OwnTo Go.Proofs.Ytfhnffondamhdaa.OwnSz Go.Proofs.Ytfhnffondamhdaa.OwnFs Go.Proofs.Ytfhnffondamhdaa.OwnMd Go.Proofs.Ytfhnffondamhdaa.OwnGs Go.Proofs.Ytfhnffondamhdaa.OwnWd
set_option linter.unusedVariables false
set_option linter.unusedSimpArgs false
/-- A state as a value. -/
abbrev sV (m : Int) (d : ByteArray) (A : Option Addr) (n c : Nat) : Value := .agg #[.int .i64 m, .string d, .slice A n c]
/-- What a state leaves of a budget. -/
def szS (n k : Nat) (a : Int) : Int := if leftM n a < 0 then -1 else if leftM k (leftM n a) < 0 then -1 else leftM k (leftM n a)
set_option maxRecDepth 100000 in
set_option maxHeartbeats 8000000 in
theorem szSt (m : Int) (d : ByteArray) (A : Option Addr) (n c : Nat) (a : Int) (w : World) : Calls Try.prog 10 #[sV m d A n c, .int .i64 a] w fun e w' => e = .returned (.int .i64 (szS d.size n a)) ∧ Below w.heap.size w w' := by
  unfold szS
  have c1 := fun W (_ : Below w.heap.size w W) => szMm m d a W
  generalize leftM d.size a = x at *
  have c2 := fun W (_ : Below w.heap.size w W) => szWd A n c x W
  generalize leftM n x = q at *
  generalize hR : (if x < 0 then (-1 : Int) else if q < 0 then -1 else q) = R
  have K : (decide (x < 0) = true ∧ R = -1) ∨ (decide (x < 0) = false ∧ decide (q < 0) = true ∧ R = -1) ∨ (decide (x < 0) = false ∧ decide (q < 0) = false ∧ R = q) := by
    simp only [decide_eq_true_eq, decide_eq_false_iff_not]
    omega
  clear hR
  rcases K with ⟨d1, rfl⟩ | ⟨d1, d2, rfl⟩ | ⟨d1, d2, rfl⟩
  all_goals
    go_enter Try.func10, Try.ntmps10
    go_wp2_with (first | (go_at_call 36; have _ := hb1; (with_reducible refine (c2 _ (by with_reducible repeat first | exact Below.refl _ _ | refine below_alloc ?_ _ | refine below_drew1 ?_ | refine pw_below_drewN ?_ _ | refine below_step ?_ hb1)).mono ?_); rintro e w2 ⟨rfl, hb2⟩; obtain ⟨hc2, hf2⟩ := bcell hb2; have hz2_0 : w.heap.size < w2.heap.size := (by have := hb2.size; first | omega | (simp at this; omega))) | (go_at_call 35; (with_reducible refine (c1 _ (by with_reducible repeat first | exact Below.refl _ _ | refine below_alloc ?_ _ | refine below_drew1 ?_ | refine pw_below_drewN ?_ _)).mono ?_); rintro e w1 ⟨rfl, hb1⟩; obtain ⟨hc1, hf1⟩ := bcell hb1; have hz1_0 : w.heap.size < w1.heap.size := (by have := hb1.size; first | omega | (simp at this; omega))))
    first
      | (refine bodyPost_ret (v := .int .i64 (-1)) (by simp [results, Try.results10, go_sem, hc1, hf1, hz1_0]) rfl ⟨rfl, ?_⟩; (with_reducible repeat first | exact Below.refl _ _ | refine below_alloc ?_ _ | refine below_drew1 ?_ | refine pw_below_drewN ?_ _ | refine below_step ?_ hb1); done)
      | (refine bodyPost_ret (v := .int .i64 (-1)) (by simp [results, Try.results10, go_sem, hc1, hf1, hz1_0, hc2, hf2, hz2_0]) rfl ⟨rfl, ?_⟩; (with_reducible repeat first | exact Below.refl _ _ | refine below_alloc ?_ _ | refine below_drew1 ?_ | refine pw_below_drewN ?_ _ | refine below_step ?_ hb2 | refine below_step ?_ hb1); done)
      | (refine bodyPost_ret (v := .int .i64 R) (by simp [results, Try.results10, go_sem, hc1, hf1, hz1_0, hc2, hf2, hz2_0]) rfl ⟨rfl, ?_⟩; (with_reducible repeat first | exact Below.refl _ _ | refine below_alloc ?_ _ | refine below_drew1 ?_ | refine pw_below_drewN ?_ _ | refine below_step ?_ hb2 | refine below_step ?_ hb1); done)

set_option maxRecDepth 100000 in
set_option maxHeartbeats 8000000 in
theorem toSt (m : Int) (d : ByteArray) (A : Option Addr) (c : Nat) (l : List (Int × Int)) (w : World) (hr : Kd.C kW w A l.length l) (hl : l.length ≤ 1048576) : Calls Try.prog 13 #[sV m d A l.length c] w fun e w' => ∃ A' c', e = .returned (sV m d A' l.length c') ∧ Kd.C kW w' A' l.length l ∧ l.length ≤ c' ∧ Below w.heap.size w w' := by
  have c1 := fun W => toMm m d W
  have c2 := fun W (B : Below w.heap.size w W) => toWd A c l W (Kd.C_below hr B) hl
  clear hr hl
  go_enter Try.func13, Try.ntmps13
  go_wp2_with fail
  refine (c1 _).mono ?_
  rintro e w2 ⟨rfl, hb2⟩
  have e3 : ∀ (o1 o2 o3 : Obj), (((w.alloc o1).alloc o2).alloc o3).heap.size = w.heap.size + 3 := by intro o1 o2 o3; simp
  have HB2 := Aside0.mk (show Below w.heap.size w w2 from below_step (by repeat (first | (with_reducible exact Below.refl _ _) | (with_reducible refine below_alloc ?_ _) | (with_reducible refine below_drew1 ?_))) hb2)
  obtain ⟨hc2, hf2⟩ := bcell hb2
  have hz2_0 : w.heap.size < w2.heap.size := by have := hb2.size; rw [e3] at this; omega
  have hz2_1 : w.heap.size + 1 < w2.heap.size := by have := hb2.size; rw [e3] at this; omega
  have hz2_2 : w.heap.size + 1 + 1 < w2.heap.size := by have := hb2.size; rw [e3] at this; omega
  clear hb2
  go_wp2_with fail
  refine (c2 _ (by have := HB2.out; repeat (first | (with_reducible exact this) | (with_reducible refine below_set ?_ (by first | omega | simp)) | (with_reducible refine below_drew1 ?_)))).mono ?_
  rintro e w3 ⟨A3, d3, rfl, C3, hb3⟩
  have HB3 := Aside0.mk (show Below w.heap.size w w3 from below_step (by have := HB2.out; repeat (first | (with_reducible exact this) | (with_reducible refine below_set ?_ (by first | omega | simp)) | (with_reducible refine below_drew1 ?_))) hb3)
  have HC3 := Aside0.mk (Kd.R_lower (base' := w.heap.size + 3) C3 (by simp [World.setCell]; omega))
  obtain ⟨hc3, hf3⟩ := bcell hb3
  have hz3_0 : w.heap.size < w3.heap.size := by have := hb3.size; simp [World.setCell] at this; omega
  have hz3_1 : w.heap.size + 1 < w3.heap.size := by have := hb3.size; simp [World.setCell] at this; omega
  have hz3_2 : w.heap.size + 1 + 1 < w3.heap.size := by have := hb3.size; simp [World.setCell] at this; omega
  clear C3 hb3
  go_wp2
  refine bodyPost_ret (v := sV m d A3 l.length d3) (by simp [results, Try.results13, go_sem, hc2, hf2, hz2_0, hz2_1, hz2_2, hc3, hf3, hz3_0, hz3_1, hz3_2]) rfl ⟨A3, d3, rfl, (Kd.R_reads' (own_step HC3.out (fun k hk hlt => ⟨by (repeat (with_reducible refine Eq.trans (Below.heap_setCell _ _ _ _ (by dsimp only; omega)) ?_)); with_reducible rfl, by simpa [World.setCell] using hlt⟩) (Below.refl _ _))).2.2, (Kd.R_reads' HC3.out).2.1, ?_⟩
  have := HB3.out
  repeat (first | (with_reducible exact this) | (with_reducible refine below_set ?_ (by first | omega | simp)) | (with_reducible refine below_drew1 ?_))

set_option maxRecDepth 100000 in
set_option maxHeartbeats 8000000 in
theorem eqSt (m : Int) (d : ByteArray) (A : Option Addr) (c : Nat) (A' : Option Addr) (c' : Nat) (l : List (Int × Int)) (w : World) (hr : Kd.C kW w A l.length l) (hr' : Kd.C kW w A' l.length l) (hl : l.length ≤ 1048576) : Calls Try.prog 16 #[sV m d A l.length c, sV m d A' l.length c'] w fun e w' => e = .returned (.bool true) ∧ Below w.heap.size w w' := by
  have c1 := fun W (_ : Below w.heap.size w W) => eqMm m d W
  have c2 := fun W (B : Below w.heap.size w W) => eqWd A c A' c' l W (Kd.C_below hr B) (Kd.C_below hr' B) hl
  clear hr hr' hl
  go_enter Try.func16, Try.ntmps16
  go_wp2_with (first | (go_at_call 48; have _ := hb1; (with_reducible refine (c2 _ (by with_reducible repeat first | exact Below.refl _ _ | refine below_alloc ?_ _ | refine below_drew1 ?_ | refine pw_below_drewN ?_ _ | refine below_step ?_ hb1)).mono ?_); rintro e w2 ⟨rfl, hb2⟩; obtain ⟨hc2, hf2⟩ := bcell hb2; have hz2_0 : w.heap.size < w2.heap.size := (by have := hb2.size; first | omega | (simp at this; omega)); have hz2_1 : w.heap.size + 1 < w2.heap.size := (by have := hb2.size; first | omega | (simp at this; omega))) | (go_at_call 47; (with_reducible refine (c1 _ (by with_reducible repeat first | exact Below.refl _ _ | refine below_alloc ?_ _ | refine below_drew1 ?_ | refine pw_below_drewN ?_ _)).mono ?_); rintro e w1 ⟨rfl, hb1⟩; obtain ⟨hc1, hf1⟩ := bcell hb1; have hz1_0 : w.heap.size < w1.heap.size := (by have := hb1.size; first | omega | (simp at this; omega)); have hz1_1 : w.heap.size + 1 < w1.heap.size := (by have := hb1.size; first | omega | (simp at this; omega))))
  (refine bodyPost_ret (v := .bool true) (by simp [results, Try.results16, go_sem, hc1, hf1, hz1_0, hz1_1, hc2, hf2, hz2_0, hz2_1]) rfl ⟨rfl, ?_⟩; (with_reducible repeat first | exact Below.refl _ _ | refine below_alloc ?_ _ | refine below_drew1 ?_ | refine pw_below_drewN ?_ _ | refine below_step ?_ hb2 | refine below_step ?_ hb1); done)

end Go.Proofs.Ytfhnffondamhdaa.OwnSs
namespace Go.Proofs.Ytfhnffondamhdaa.OwnGt
open Go Go.RowKit Go.Proofs.YtfhnffondamhdaaW.PrintWords Go.Proofs.YtfhnffondamhdaaW.PrintLast Go.Proofs.YtfhnffondamhdaaW.PrintMore Go.Proofs.Ytfhnffondamhdaa.OwnBs Go.Proofs.Ytfhnffondamhdaa.OwnKp Go.Proofs.Ytfhnffondamhdaa.OwnCode Go.Proofs.Ytfhnffondamhdaa.OwnSt Go.Proofs.Ytfhnffondamhdaa.OwnFn Go.Proofs.Ytfhnffondamhdaa.OwnTo Go.Proofs.Ytfhnffondamhdaa.OwnSz Go.Proofs.Ytfhnffondamhdaa.OwnFs Go.Proofs.Ytfhnffondamhdaa.OwnMd Go.Proofs.Ytfhnffondamhdaa.OwnGs Go.Proofs.Ytfhnffondamhdaa.OwnGsI Go.Proofs.Ytfhnffondamhdaa.OwnGsS Go.Proofs.Ytfhnffondamhdaa.OwnWd Go.Proofs.Ytfhnffondamhdaa.OwnSs
set_option linter.unusedVariables false
set_option linter.unusedSimpArgs false
/-- What is good of a state's words beside a module's globals. -/
def wsB (l : List (Int × Int)) (G : List Glo) : Bool := (l.zip G).all fun p => wdB p.1 && decide (p.1.1 = p.2.1)
/-- What is good of a state's memory. -/
def smB (mem : Bool) (most m : Int) (d : ByteArray) : Bool := if mem = true then mmB m d.size && decide (m = most) else decide (m = 0) && decide (d = ByteArray.empty)
def gtB (rb mem : Bool) (most : Int) (G : List Glo) (m : Int) (d : ByteArray) (l : List (Int × Int)) : Bool := rb && (decide (l.length = G.length) && (smB mem most m d && wsB l G))
theorem ws_bad {l : List (Int × Int)} {G : List Glo} (i : Nat) (h1 : i < l.length) (h2 : i < G.length) (h : (wdB l[i] && decide (l[i].1 = G[i].1)) = false) : wsB l G = false := by
  unfold wsB
  rw [List.all_eq_false]
  exact ⟨(l[i], G[i]), List.mem_iff_getElem.2 ⟨i, by simp; omega, by simp⟩, by simp only; rw [h]; decide⟩
theorem ws_ok {l : List (Int × Int)} {G : List Glo} (he : l.length = G.length) (h : ∀ i, (h1 : i < l.length) → (h2 : i < G.length) → (wdB l[i] && decide (l[i].1 = G[i].1)) = true) : wsB l G = true := by
  unfold wsB
  rw [List.all_eq_true]
  intro x hx
  obtain ⟨i, hi, rfl⟩ := List.mem_iff_getElem.1 hx
  have h1 : i < l.length := by simp at hi; omega
  simpa using h i h1 (by omega)
/-- A boxed module's globals. -/
structure MB (w wr : World) (Ag : Option Addr) (n cg : Nat) : Prop where
  c1 : wr.cell? ⟨w.heap.size, 1, none⟩ = some (.slice Ag n cg)
  lt : w.heap.size < wr.heap.size
  bel : Below w.heap.size w wr
theorem MB.below {w wr w1 : World} {Ag : Option Addr} {n cg : Nat} (h : MB w wr Ag n cg) (hb : Below wr.heap.size wr w1) : MB w w1 Ag n cg :=
  ⟨(hb.cell (p := ⟨_, _, none⟩) h.lt).trans h.c1, Nat.lt_of_lt_of_le h.lt hb.size, below_step h.bel hb⟩
/-- A boxed state's cells. -/
structure SC (b : Nat) (wr : World) (m : Int) (d : ByteArray) (A : Option Addr) (n c : Nat) : Prop where
  c0 : wr.cell? ⟨b, 0, none⟩ = some (.int .i64 m)
  c1 : wr.cell? ⟨b, 1, none⟩ = some (.string d)
  c2 : wr.cell? ⟨b, 2, none⟩ = some (.slice A n c)
  lt : b < wr.heap.size
theorem SC.below {b : Nat} {wr w1 : World} {m : Int} {d : ByteArray} {A : Option Addr} {n c : Nat} (h : SC b wr m d A n c) (hb : Below wr.heap.size wr w1) : SC b w1 m d A n c :=
  ⟨(hb.cell (p := ⟨_, _, none⟩) h.lt).trans h.c0, (hb.cell (p := ⟨_, _, none⟩) h.lt).trans h.c1, (hb.cell (p := ⟨_, _, none⟩) h.lt).trans h.c2, Nat.lt_of_lt_of_le h.lt hb.size⟩

set_option maxRecDepth 100000 in
set_option maxHeartbeats 40000000 in
theorem gst_i (Af : Option Addr) (cf : Nat) (F : List Rec) (Ag : Option Addr) (cg : Nat) (G : List Glo) (mem : Bool) (pages most start : Int) (m : Int) (d : ByteArray) (A : Option Addr) (c : Nat) (l : List (Int × Int)) (w : World) (hr : MdR w Af cf F Ag cg G) (hF : F.length ≤ 1048576) (hf : ∀ f ∈ F, lens f) (hG : G.length ≤ 1048576) (hS : -9223372036854775808 ≤ start) (hS2 : start ≤ 9223372036854775807) (hw : Kd.C kW w A l.length l) (hl : l.length ≤ 1048576) (hd : d.size ≤ 1048576) : Calls Try.prog 14 #[mdV Af cf F Ag cg G mem pages most start, sV m d A l.length c] w fun e w' => e = .returned (.bool (gtB (gsM F G mem pages most start) mem most G m d l)) ∧ Below w.heap.size w w' := by
  have HR := Aside0.mk hr
  have HW := Aside0.mk hw
  have c1 := fun W (B : Below w.heap.size w W) => gsh_i Af cf F Ag cg G mem pages most start W (HR.out.below B) hF hf hG hS hS2
  have cm := fun W => mm_i m d W hd
  have HL := Aside0.mk hl
  clear hr hw hF hf hG hS hS2 hl hd
  generalize gsM F G mem pages most start = rb at *
  unfold gtB smB
  generalize mmB m d.size = mb at *
  generalize hR : (rb && (decide (l.length = G.length) && ((if mem = true then mb && decide (m = most) else decide (m = 0) && decide (d = ByteArray.empty)) && wsB l G))) = R
  have K : (rb = false ∧ R = false) ∨ (rb = true ∧ l.length ≠ G.length ∧ R = false) ∨ (rb = true ∧ l.length = G.length ∧ mem = true ∧ mb = false ∧ R = false) ∨ (rb = true ∧ l.length = G.length ∧ mem = true ∧ mb = true ∧ m ≠ most ∧ R = false) ∨ (rb = true ∧ l.length = G.length ∧ mem = false ∧ m ≠ 0 ∧ R = false) ∨ (rb = true ∧ l.length = G.length ∧ mem = false ∧ m = 0 ∧ ¬ d.toList = [] ∧ R = false) ∨ (rb = true ∧ l.length = G.length ∧ mem = true ∧ mb = true ∧ m = most ∧ R = wsB l G) ∨ (rb = true ∧ l.length = G.length ∧ mem = false ∧ m = 0 ∧ d = ByteArray.empty ∧ R = wsB l G) := by
    have hE := toList_nil_iff_emptyBytes d
    subst hR
    cases rb <;> cases mem <;> cases mb <;> simp
    all_goals
      by_cases a1 : l.length = G.length <;> by_cases a2 : m = most <;> by_cases a3 : m = 0 <;> by_cases a4 : d = ByteArray.empty <;> simp_all
  clear hR
  rcases K with ⟨rfl, rfl⟩ | ⟨rfl, K, rfl⟩ | ⟨rfl, K, rfl, rfl, rfl⟩ | ⟨rfl, K, rfl, rfl, K2, rfl⟩ | ⟨rfl, K, rfl, K2, rfl⟩ | ⟨rfl, K, rfl, rfl, K2, rfl⟩ | ⟨rfl, K, rfl, rfl, rfl, hR⟩ | ⟨rfl, K, rfl, rfl, rfl, hR⟩
  · go_enter Try.func14, Try.ntmps14
    go_wp2_with (first | (go_at_call 43; (with_reducible refine (cm _).mono ?_); rintro e w2 ⟨rfl, hb2⟩; obtain ⟨hc2, hf2⟩ := bcell hb2; have hz2_0 : w.heap.size < w2.heap.size := (by have := hb2.size; first | omega | (simp at this; omega)); have hz2_1 : w.heap.size + 1 < w2.heap.size := (by have := hb2.size; first | omega | (simp at this; omega))) | (go_at_call 30; (with_reducible refine (c1 _ (by with_reducible repeat first | exact Below.refl _ _ | refine below_alloc ?_ _ | refine below_drew1 ?_ | refine pw_below_drewN ?_ _)).mono ?_); rintro e w1 ⟨rfl, hb1⟩; obtain ⟨hc1, hf1⟩ := bcell hb1; have hz1_0 : w.heap.size < w1.heap.size := (by have := hb1.size; first | omega | (simp at this; omega)); have hz1_1 : w.heap.size + 1 < w1.heap.size := (by have := hb1.size; first | omega | (simp at this; omega))))
    go_ret
    exact ⟨rfl, by with_reducible repeat first | exact Below.refl _ _ | refine below_alloc ?_ _ | refine below_drew1 ?_ | refine pw_below_drewN ?_ _ | refine below_step ?_ hb2 | refine below_step ?_ hb1⟩
  · have d1 : ((l.length : Int) == (G.length : Int)) = false := beq_eq_false_iff_ne.2 (by omega)
    have d2 : ((l.length : Int) != (G.length : Int)) = true := bne_iff_ne.2 (by omega)
    clear K
    go_enter Try.func14, Try.ntmps14
    go_wp2_with (first | (go_at_call 43; (with_reducible refine (cm _).mono ?_); rintro e w2 ⟨rfl, hb2⟩; obtain ⟨hc2, hf2⟩ := bcell hb2; have hz2_0 : w.heap.size < w2.heap.size := (by have := hb2.size; first | omega | (simp at this; omega)); have hz2_1 : w.heap.size + 1 < w2.heap.size := (by have := hb2.size; first | omega | (simp at this; omega))) | (go_at_call 30; (with_reducible refine (c1 _ (by with_reducible repeat first | exact Below.refl _ _ | refine below_alloc ?_ _ | refine below_drew1 ?_ | refine pw_below_drewN ?_ _)).mono ?_); rintro e w1 ⟨rfl, hb1⟩; obtain ⟨hc1, hf1⟩ := bcell hb1; have hz1_0 : w.heap.size < w1.heap.size := (by have := hb1.size; first | omega | (simp at this; omega)); have hz1_1 : w.heap.size + 1 < w1.heap.size := (by have := hb1.size; first | omega | (simp at this; omega))))
    go_ret
    exact ⟨rfl, by with_reducible repeat first | exact Below.refl _ _ | refine below_alloc ?_ _ | refine below_drew1 ?_ | refine pw_below_drewN ?_ _ | refine below_step ?_ hb2 | refine below_step ?_ hb1⟩
  · have d1 : ((l.length : Int) == (G.length : Int)) = true := beq_iff_eq.2 (by omega)
    have d2 : ((l.length : Int) != (G.length : Int)) = false := bne_eq_false_iff_eq.2 (by omega)
    go_enter Try.func14, Try.ntmps14
    go_wp2_with (first | (go_at_call 43; (with_reducible refine (cm _).mono ?_); rintro e w2 ⟨rfl, hb2⟩; obtain ⟨hc2, hf2⟩ := bcell hb2; have hz2_0 : w.heap.size < w2.heap.size := (by have := hb2.size; first | omega | (simp at this; omega)); have hz2_1 : w.heap.size + 1 < w2.heap.size := (by have := hb2.size; first | omega | (simp at this; omega))) | (go_at_call 30; (with_reducible refine (c1 _ (by with_reducible repeat first | exact Below.refl _ _ | refine below_alloc ?_ _ | refine below_drew1 ?_ | refine pw_below_drewN ?_ _)).mono ?_); rintro e w1 ⟨rfl, hb1⟩; obtain ⟨hc1, hf1⟩ := bcell hb1; have hz1_0 : w.heap.size < w1.heap.size := (by have := hb1.size; first | omega | (simp at this; omega)); have hz1_1 : w.heap.size + 1 < w1.heap.size := (by have := hb1.size; first | omega | (simp at this; omega))))
    go_ret
    exact ⟨rfl, by with_reducible repeat first | exact Below.refl _ _ | refine below_alloc ?_ _ | refine below_drew1 ?_ | refine pw_below_drewN ?_ _ | refine below_step ?_ hb2 | refine below_step ?_ hb1⟩
  · have d1 : ((l.length : Int) == (G.length : Int)) = true := beq_iff_eq.2 (by omega)
    have d2 : ((l.length : Int) != (G.length : Int)) = false := bne_eq_false_iff_eq.2 (by omega)
    have k1 : (m == most) = false := beq_eq_false_iff_ne.2 K2
    have k2 : (m != most) = true := bne_iff_ne.2 K2
    clear K2
    go_enter Try.func14, Try.ntmps14
    go_wp2_with (first | (go_at_call 43; (with_reducible refine (cm _).mono ?_); rintro e w2 ⟨rfl, hb2⟩; obtain ⟨hc2, hf2⟩ := bcell hb2; have hz2_0 : w.heap.size < w2.heap.size := (by have := hb2.size; first | omega | (simp at this; omega)); have hz2_1 : w.heap.size + 1 < w2.heap.size := (by have := hb2.size; first | omega | (simp at this; omega))) | (go_at_call 30; (with_reducible refine (c1 _ (by with_reducible repeat first | exact Below.refl _ _ | refine below_alloc ?_ _ | refine below_drew1 ?_ | refine pw_below_drewN ?_ _)).mono ?_); rintro e w1 ⟨rfl, hb1⟩; obtain ⟨hc1, hf1⟩ := bcell hb1; have hz1_0 : w.heap.size < w1.heap.size := (by have := hb1.size; first | omega | (simp at this; omega)); have hz1_1 : w.heap.size + 1 < w1.heap.size := (by have := hb1.size; first | omega | (simp at this; omega))))
    go_ret
    exact ⟨rfl, by with_reducible repeat first | exact Below.refl _ _ | refine below_alloc ?_ _ | refine below_drew1 ?_ | refine pw_below_drewN ?_ _ | refine below_step ?_ hb2 | refine below_step ?_ hb1⟩
  · have d1 : ((l.length : Int) == (G.length : Int)) = true := beq_iff_eq.2 (by omega)
    have d2 : ((l.length : Int) != (G.length : Int)) = false := bne_eq_false_iff_eq.2 (by omega)
    have k1 : (m == 0) = false := beq_eq_false_iff_ne.2 K2
    go_enter Try.func14, Try.ntmps14
    go_wp2_with (first | (go_at_call 43; (with_reducible refine (cm _).mono ?_); rintro e w2 ⟨rfl, hb2⟩; obtain ⟨hc2, hf2⟩ := bcell hb2; have hz2_0 : w.heap.size < w2.heap.size := (by have := hb2.size; first | omega | (simp at this; omega)); have hz2_1 : w.heap.size + 1 < w2.heap.size := (by have := hb2.size; first | omega | (simp at this; omega))) | (go_at_call 30; (with_reducible refine (c1 _ (by with_reducible repeat first | exact Below.refl _ _ | refine below_alloc ?_ _ | refine below_drew1 ?_ | refine pw_below_drewN ?_ _)).mono ?_); rintro e w1 ⟨rfl, hb1⟩; obtain ⟨hc1, hf1⟩ := bcell hb1; have hz1_0 : w.heap.size < w1.heap.size := (by have := hb1.size; first | omega | (simp at this; omega)); have hz1_1 : w.heap.size + 1 < w1.heap.size := (by have := hb1.size; first | omega | (simp at this; omega))))
    go_ret
    exact ⟨rfl, by with_reducible repeat first | exact Below.refl _ _ | refine below_alloc ?_ _ | refine below_drew1 ?_ | refine pw_below_drewN ?_ _ | refine below_step ?_ hb2 | refine below_step ?_ hb1⟩
  · have d1 : ((l.length : Int) == (G.length : Int)) = true := beq_iff_eq.2 (by omega)
    have d2 : ((l.length : Int) != (G.length : Int)) = false := bne_eq_false_iff_eq.2 (by omega)
    go_enter Try.func14, Try.ntmps14
    go_wp2_with (first | (go_at_call 43; (with_reducible refine (cm _).mono ?_); rintro e w2 ⟨rfl, hb2⟩; obtain ⟨hc2, hf2⟩ := bcell hb2; have hz2_0 : w.heap.size < w2.heap.size := (by have := hb2.size; first | omega | (simp at this; omega)); have hz2_1 : w.heap.size + 1 < w2.heap.size := (by have := hb2.size; first | omega | (simp at this; omega))) | (go_at_call 30; (with_reducible refine (c1 _ (by with_reducible repeat first | exact Below.refl _ _ | refine below_alloc ?_ _ | refine below_drew1 ?_ | refine pw_below_drewN ?_ _)).mono ?_); rintro e w1 ⟨rfl, hb1⟩; obtain ⟨hc1, hf1⟩ := bcell hb1; have hz1_0 : w.heap.size < w1.heap.size := (by have := hb1.size; first | omega | (simp at this; omega)); have hz1_1 : w.heap.size + 1 < w1.heap.size := (by have := hb1.size; first | omega | (simp at this; omega))))
    go_ret
    exact ⟨rfl, by with_reducible repeat first | exact Below.refl _ _ | refine below_alloc ?_ _ | refine below_drew1 ?_ | refine pw_below_drewN ?_ _ | refine below_step ?_ hb2 | refine below_step ?_ hb1⟩
  all_goals
    have d1 : ((l.length : Int) == (G.length : Int)) = true := beq_iff_eq.2 (by omega)
    have d2 : ((l.length : Int) != (G.length : Int)) = false := bne_eq_false_iff_eq.2 (by omega)
    have HE := Aside0.mk K
    have HNB : Aside0 (wsB l G = false → R = false) := ⟨fun h => hR.trans h⟩
    have HYB : Aside0 (wsB l G = true → R = true) := ⟨fun h => hR.trans h⟩
    clear hR K
    go_enter Try.func14, Try.ntmps14
    go_wp2_with (first | (go_at_call 43; (with_reducible refine (cm _).mono ?_); rintro e w2 ⟨rfl, hb2⟩; obtain ⟨hc2, hf2⟩ := bcell hb2; have hz2_0 : w.heap.size < w2.heap.size := (by have := hb2.size; first | omega | (simp at this; omega)); have hz2_1 : w.heap.size + 1 < w2.heap.size := (by have := hb2.size; first | omega | (simp at this; omega))) | (go_at_call 30; (with_reducible refine (c1 _ (by with_reducible repeat first | exact Below.refl _ _ | refine below_alloc ?_ _ | refine below_drew1 ?_ | refine pw_below_drewN ?_ _)).mono ?_); rintro e w1 ⟨rfl, hb1⟩; obtain ⟨hc1, hf1⟩ := bcell hb1; have hz1_0 : w.heap.size < w1.heap.size := (by have := hb1.size; first | omega | (simp at this; omega)); have hz1_1 : w.heap.size + 1 < w1.heap.size := (by have := hb1.size; first | omega | (simp at this; omega))))
    first
      | have HM0 : Aside0 (MB w w2 Ag G.length cg) := ⟨⟨by rw [hc2 _ _ (by first | omega | (simp; omega)), hc1 _ _ (by first | omega | (simp; omega))]; go_simp, hz2_0, by with_reducible repeat first | exact Below.refl _ _ | refine below_alloc ?_ _ | refine below_drew1 ?_ | refine pw_below_drewN ?_ _ | refine below_step ?_ hb2 | refine below_step ?_ hb1⟩⟩
      | have HM0 : Aside0 (MB w w1 Ag G.length cg) := ⟨⟨by rw [hc1 _ _ (by first | omega | (simp; omega))]; go_simp, hz1_0, by with_reducible repeat first | exact Below.refl _ _ | refine below_alloc ?_ _ | refine below_drew1 ?_ | refine pw_below_drewN ?_ _ | refine below_step ?_ hb1⟩⟩
    clear d1 d2 c1 cm
    try clear hc2 hf2 hz2_0 hz2_1 hb2
    clear hc1 hf1 hz1_0 hz1_1 hb1
    go_loopg [40] l.length (fun kq v40 w' => ∃ i : Nat, i + kq = l.length ∧ v40 = .int .i64 i ∧ Aside0 (MB w w' Ag G.length cg) ∧ Aside0 (∀ j, (h : j < l.length) → (h2 : j < G.length) → j < i → (wdB l[j] && decide (l[j].1 = G[j].1)) = true))
    case atStart => exact ⟨0, by omega, rfl, HM0, ⟨fun j _ _ h => absurd h (Nat.not_lt_zero _)⟩⟩
    case round =>
      clear HM0
      obtain ⟨i, hi, rfl, HM, HA⟩ := hrel
      cases gk with
      | zero =>
        obtain rfl : i = l.length := by omega
        have hd : decide ((l.length : Int) < (l.length : Int)) = false := decide_eq_false (by omega)
        obtain rfl : R = true := HYB.out (ws_ok HE.out (fun j h1 h2 => HA.out j h1 h2 h1))
        go_wp2
        go_ret
        exact ⟨rfl, HM.out.bel⟩
      | succ k1 =>
        have hil : i < l.length := by omega
        have hig : i < G.length := by have := HE.out; omega
        have hd : decide ((i : Int) < (l.length : Int)) = true := decide_eq_true (by omega)
        obtain ⟨ad, e1, hx0, hx1⟩ := at_wd HW.out i hil
        obtain ⟨ad', e2, hy0, hy1, hy2⟩ := at_gl HR.out.g1 i hig
        subst e1; subst e2
        have hbl := HM.out.bel
        replace hx0 := (hbl.cell (World.block_lt_of_cell? w _ hx0)).trans hx0
        replace hx1 := (hbl.cell (World.block_lt_of_cell? w _ hx1)).trans hx1
        replace hy0 := (hbl.cell (World.block_lt_of_cell? w _ hy0)).trans hy0
        have HN : Aside0 ((wdB l[i] && decide (l[i].1 = G[i].1)) = false → R = false) := ⟨fun h => HNB.out (ws_bad i hil hig h)⟩
        have HY : Aside0 ((wdB l[i] && decide (l[i].1 = G[i].1)) = true → ∀ j, (h : j < l.length) → (h2 : j < G.length) → j < i + 1 → (wdB l[j] && decide (l[j].1 = G[j].1)) = true) := ⟨fun h j h1 h2 hj => by
          by_cases e : j = i
          · subst e; exact h
          · exact HA.out j h1 h2 (by omega)⟩
        have m1 := HM.out.c1
        have ly := World.block_lt_of_cell? wr _ hy0
        have lm := HM.out.lt
        clear hbl HA hy1 hy2
        generalize l[i] = x at *
        generalize G[i].1 = gt at *
        obtain ⟨x0, x1⟩ := x
        simp only at hx0 hx1 HN HY
        have cw := fun W => wd_i x0 x1 W
        have q1 : (0 : Int) ≤ (i : Int) := by omega
        have q2 : (i : Int) < (l.length : Int) := by omega
        have q3 : (i : Int) < (G.length : Int) := by omega
        have ew : IntKind.i64.wrap ((i : Int) + 1) = (i : Int) + 1 := by rw [IntKind.wrap_i64]; have := HL.out; omega
        generalize wdB (x0, x1) = wb at *
        cases wb with
        | false =>
          obtain rfl : R = false := HN.out rfl
          clear HN HY
          go_wp2
          refine wp_region_held_drew (S := fun w' => w'.cell? ⟨wr.heap.size, 0, none⟩ = some (.int .i64 x0) ∧ w'.cell? ⟨wr.heap.size, 1, none⟩ = some (.int .u64 x1)) (by kernel_rfl) ?_ (fun hHeld => ?_)
          · refine ⟨?_, ?_⟩ <;> go_simp
          refine wpAnyH_take (i := 0) (v := ?_) rfl (by kernel_rfl) (by kernel_rfl) (by kernel_rfl) (fun _ _ _ h => h) (Or.inl ⟨by rfl, ?_⟩) (by assumption) ?_
          rotate_left
          · intro w hSw; (try dsimp only at hSw); go_simp; try with_reducible rfl
          simp only [List.getElem_toArray, List.getElem_cons_zero, List.getElem_cons_succ, Act.put, List.setIfInBounds_toArray, List.set_cons_zero, List.set_cons_succ]
          refine wpAnyH_ready (rs := [1]) (by kernel_rfl) (by simp) ?_
          refine AllReadyH.cons rfl (fun K hK => ?_) AllReadyH.nil
          go_simp
          go_at_call 44
          with_reducible refine (cw _).mono ?_
          rintro e w2 ⟨rfl, hb2⟩
          refine hK.out _ _ ⟨by rw [hb2.cell (by simp)]; go_simp, by rw [hb2.cell (by simp)]; go_simp⟩ (fun hHeld => ?_)
          clear hK K
          refine wpAnyH_take (i := 2) (v := ?_) rfl (by kernel_rfl) (by kernel_rfl) (by kernel_rfl) (fun _ _ _ h => h) (Or.inl ⟨by rfl, ?_⟩) (by assumption) ?_
          rotate_left
          · intro w hSw; (try dsimp only at hSw); go_simp; try with_reducible rfl
          simp only [List.getElem_toArray, List.getElem_cons_zero, List.getElem_cons_succ, Act.put, List.setIfInBounds_toArray, List.set_cons_zero, List.set_cons_succ]
          refine wpAnyH_take (i := 3) (v := ?_) rfl (by kernel_rfl) (by kernel_rfl) (by kernel_rfl) (fun _ _ _ h => h) (Or.inl ⟨by rfl, ?_⟩) (by assumption) ?_
          rotate_left
          · intro w hSw; (try dsimp only at hSw); go_simp; try with_reducible rfl
          simp only [List.getElem_toArray, List.getElem_cons_zero, List.getElem_cons_succ, Act.put, List.setIfInBounds_toArray, List.set_cons_zero, List.set_cons_succ]
          refine wpAnyH_take (i := 4) (v := undef) rfl (by kernel_rfl) (by kernel_rfl) (by kernel_rfl) (fun _ _ _ h => h) (Or.inr ⟨by kernel_rfl, rfl⟩) (by assumption) ?_
          simp only [List.getElem_toArray, List.getElem_cons_zero, List.getElem_cons_succ, Act.put, List.setIfInBounds_toArray, List.set_cons_zero, List.set_cons_succ]
          refine wpAnyH_take (i := 5) (v := undef) rfl (by kernel_rfl) (by kernel_rfl) (by kernel_rfl) (fun _ _ _ h => h) (Or.inr ⟨by kernel_rfl, rfl⟩) (by assumption) ?_
          simp only [List.getElem_toArray, List.getElem_cons_zero, List.getElem_cons_succ, Act.put, List.setIfInBounds_toArray, List.set_cons_zero, List.set_cons_succ]
          refine wpAnyH_take (i := 6) (v := undef) rfl (by kernel_rfl) (by kernel_rfl) (by kernel_rfl) (fun _ _ _ h => h) (Or.inr ⟨by kernel_rfl, rfl⟩) (by assumption) ?_
          simp only [List.getElem_toArray, List.getElem_cons_zero, List.getElem_cons_succ, Act.put, List.setIfInBounds_toArray, List.set_cons_zero, List.set_cons_succ]
          refine wpAnyH_take (i := 7) (v := undef) rfl (by kernel_rfl) (by kernel_rfl) (by kernel_rfl) (fun _ _ _ h => h) (Or.inr ⟨by kernel_rfl, rfl⟩) (by assumption) ?_
          simp only [List.getElem_toArray, List.getElem_cons_zero, List.getElem_cons_succ, Act.put, List.setIfInBounds_toArray, List.set_cons_zero, List.set_cons_succ]
          refine wpAnyH_take (i := 8) (v := undef) rfl (by kernel_rfl) (by kernel_rfl) (by kernel_rfl) (fun _ _ _ h => h) (Or.inr ⟨by kernel_rfl, rfl⟩) (by assumption) ?_
          simp only [List.getElem_toArray, List.getElem_cons_zero, List.getElem_cons_succ, Act.put, List.setIfInBounds_toArray, List.set_cons_zero, List.set_cons_succ]
          refine wpAnyH_take (i := 9) (v := undef) rfl (by kernel_rfl) (by kernel_rfl) (by kernel_rfl) (fun _ _ _ h => h) (Or.inr ⟨by kernel_rfl, rfl⟩) (by assumption) ?_
          simp only [List.getElem_toArray, List.getElem_cons_zero, List.getElem_cons_succ, Act.put, List.setIfInBounds_toArray, List.set_cons_zero, List.set_cons_succ]
          refine wpAnyH_take (i := 10) (v := undef) rfl (by kernel_rfl) (by kernel_rfl) (by kernel_rfl) (fun _ _ _ h => h) (Or.inr ⟨by kernel_rfl, rfl⟩) (by assumption) ?_
          simp only [List.getElem_toArray, List.getElem_cons_zero, List.getElem_cons_succ, Act.put, List.setIfInBounds_toArray, List.set_cons_zero, List.set_cons_succ]
          refine wpAnyH_take (i := 11) (v := undef) rfl (by kernel_rfl) (by kernel_rfl) (by kernel_rfl) (fun _ _ _ h => h) (Or.inr ⟨by kernel_rfl, rfl⟩) (by assumption) ?_
          simp only [List.getElem_toArray, List.getElem_cons_zero, List.getElem_cons_succ, Act.put, List.setIfInBounds_toArray, List.set_cons_zero, List.set_cons_succ]
          refine wpAnyH_take (i := 12) (v := undef) rfl (by kernel_rfl) (by kernel_rfl) (by kernel_rfl) (fun _ _ _ h => h) (Or.inr ⟨by kernel_rfl, rfl⟩) (by assumption) ?_
          simp only [List.getElem_toArray, List.getElem_cons_zero, List.getElem_cons_succ, Act.put, List.setIfInBounds_toArray, List.set_cons_zero, List.set_cons_succ]
          refine wpAnyH_take (i := 13) (v := ?_) rfl (by kernel_rfl) (by kernel_rfl) (by kernel_rfl) (fun _ _ _ h => h) (Or.inl ⟨by rfl, ?_⟩) (by assumption) ?_
          rotate_left
          · intro w hSw; (try dsimp only at hSw); go_simp; try with_reducible rfl
          simp only [List.getElem_toArray, List.getElem_cons_zero, List.getElem_cons_succ, Act.put, List.setIfInBounds_toArray, List.set_cons_zero, List.set_cons_succ]
          refine wpAnyH_done (by kernel_rfl) ?_ _
          simp only [Exit.then]
          first | (rename_i kk; refine kk _ _ ?_) | (rename_i kk _; refine kk _ _ ?_) | (rename_i kk _ _; refine kk _ _ ?_) | (rename_i kk _ _ _; refine kk _ _ ?_)
          go_wp2
          go_ret
          exact ⟨rfl, below_step HM.out.bel (by with_reducible repeat first | exact Below.refl _ _ | refine below_alloc ?_ _ | refine below_drew1 ?_ | refine pw_below_drewN ?_ _ | refine below_step ?_ hb2)⟩
        | true =>
          by_cases t : x0 = gt
          · subst t
            have HY2 := Aside0.mk (HY.out (by simp))
            clear HN HY
            go_wp2
            first | go_region_held3 (fun w' => w'.cell? ⟨wr.heap.size, 0, none⟩ = some (.int .i64 x0) ∧ w'.cell? ⟨wr.heap.size, 1, none⟩ = some (.int .u64 x1) ∧ w'.cell? ⟨w.heap.size, 1, none⟩ = some (.slice (some ad') G.length cg) ∧ w'.cell? (ad'.add (i * 3)) = some (.int .i64 x0)) (refine ⟨?_, ?_, ?_, ?_⟩ <;> go_simp) (first | (go_at_call 44; (with_reducible refine (cw _).mono ?_); rintro e w2 ⟨rfl, hb2⟩; have j0 : w2.cell? ⟨wr.heap.size, 0, none⟩ = some (.int .i64 x0) := (by rw [hb2.cell (by simp)]; go_simp); have j1 : w2.cell? ⟨wr.heap.size, 1, none⟩ = some (.int .u64 x1) := (by rw [hb2.cell (by simp)]; go_simp); have j2 : w2.cell? ⟨w.heap.size, 1, none⟩ = some (.slice (some ad') G.length cg) := (by rw [hb2.cell (by simp; omega)]; go_simp); have j3 : w2.cell? (ad'.add (i * 3)) = some (.int .i64 x0) := (by rw [hb2.cell (by simp; omega)]; go_simp))) | fail
            all_goals
              simp only [Exit.then]
              first | (rename_i kk; refine kk _ _ ?_) | (rename_i kk _; refine kk _ _ ?_) | (rename_i kk _ _; refine kk _ _ ?_) | (rename_i kk _ _ _; refine kk _ _ ?_)
              go_wp2
              go_roundg k1
              case measure => omega
              case rel => exact ⟨i + 1, by omega, by rw [Int.natCast_add]; rfl, ⟨HM.out.below (by with_reducible repeat first | exact Below.refl _ _ | refine below_alloc ?_ _ | refine below_drew1 ?_ | refine pw_below_drewN ?_ _ | refine below_step ?_ hb2)⟩, HY2⟩
          · obtain rfl : R = false := HN.out (by simp [t])
            have t1 : (x0 == gt) = false := beq_eq_false_iff_ne.2 t
            have t2 : (x0 != gt) = true := bne_iff_ne.2 t
            clear HN HY
            go_wp2
            first | go_region_held3 (fun w' => w'.cell? ⟨wr.heap.size, 0, none⟩ = some (.int .i64 x0) ∧ w'.cell? ⟨wr.heap.size, 1, none⟩ = some (.int .u64 x1) ∧ w'.cell? ⟨w.heap.size, 1, none⟩ = some (.slice (some ad') G.length cg) ∧ w'.cell? (ad'.add (i * 3)) = some (.int .i64 gt)) (refine ⟨?_, ?_, ?_, ?_⟩ <;> go_simp) (first | (go_at_call 44; (with_reducible refine (cw _).mono ?_); rintro e w2 ⟨rfl, hb2⟩; have j0 : w2.cell? ⟨wr.heap.size, 0, none⟩ = some (.int .i64 x0) := (by rw [hb2.cell (by simp)]; go_simp); have j1 : w2.cell? ⟨wr.heap.size, 1, none⟩ = some (.int .u64 x1) := (by rw [hb2.cell (by simp)]; go_simp); have j2 : w2.cell? ⟨w.heap.size, 1, none⟩ = some (.slice (some ad') G.length cg) := (by rw [hb2.cell (by simp; omega)]; go_simp); have j3 : w2.cell? (ad'.add (i * 3)) = some (.int .i64 gt) := (by rw [hb2.cell (by simp; omega)]; go_simp))) | fail
            all_goals
              simp only [Exit.then]
              first | (rename_i kk; refine kk _ _ ?_) | (rename_i kk _; refine kk _ _ ?_) | (rename_i kk _ _; refine kk _ _ ?_) | (rename_i kk _ _ _; refine kk _ _ ?_)
              go_wp2
              go_ret
              exact ⟨rfl, below_step HM.out.bel (by with_reducible repeat first | exact Below.refl _ _ | refine below_alloc ?_ _ | refine below_drew1 ?_ | refine pw_below_drewN ?_ _ | refine below_step ?_ hb2)⟩

end Go.Proofs.Ytfhnffondamhdaa.OwnGt
namespace Go.Proofs.Ytfhnffondamhdaa.OwnGtS
open Go Go.RowKit Go.Proofs.YtfhnffondamhdaaW.PrintWords Go.Proofs.YtfhnffondamhdaaW.PrintLast Go.Proofs.YtfhnffondamhdaaW.PrintMore Go.Proofs.Ytfhnffondamhdaa.OwnBs Go.Proofs.Ytfhnffondamhdaa.OwnKp Go.Proofs.Ytfhnffondamhdaa.OwnCode Go.Proofs.Ytfhnffondamhdaa.OwnSt Go.Proofs.Ytfhnffondamhdaa.OwnFn Go.Proofs.Ytfhnffondamhdaa.OwnTo Go.Proofs.Ytfhnffondamhdaa.OwnSz Go.Proofs.Ytfhnffondamhdaa.OwnFs Go.Proofs.Ytfhnffondamhdaa.OwnMd Go.Proofs.Ytfhnffondamhdaa.OwnGs Go.Proofs.Ytfhnffondamhdaa.OwnGsI Go.Proofs.Ytfhnffondamhdaa.OwnGsS Go.Proofs.Ytfhnffondamhdaa.OwnWd Go.Proofs.Ytfhnffondamhdaa.OwnSs Go.Proofs.Ytfhnffondamhdaa.OwnGt
set_option linter.unusedVariables false
set_option linter.unusedSimpArgs false

set_option maxRecDepth 100000 in
set_option maxHeartbeats 40000000 in
theorem gst_s (Af : Option Addr) (cf : Nat) (F : List Rec) (Ag : Option Addr) (cg : Nat) (G : List Glo) (mem : Bool) (pages most start : Int) (m : Int) (d : ByteArray) (A : Option Addr) (c : Nat) (l : List (Int × Int)) (w : World) (hr : MdR w Af cf F Ag cg G) (hF : F.length ≤ 1048576) (hf : ∀ f ∈ F, lens f) (hG : G.length ≤ 1048576) (hS : -9223372036854775808 ≤ start) (hS2 : start ≤ 9223372036854775807) (hw : Kd.C kW w A l.length l) (hl : l.length ≤ 1048576) (hd : d.size ≤ 1048576) : Calls Try.prog 11 #[mdV Af cf F Ag cg G mem pages most start, sV m d A l.length c] w fun e w' => e = .returned (.bool (gtB (gsM F G mem pages most start) mem most G m d l)) ∧ Below w.heap.size w w' := by
  have HR := Aside0.mk hr
  have HW := Aside0.mk hw
  have c1 := fun W (B : Below w.heap.size w W) => gsh_s Af cf F Ag cg G mem pages most start W (HR.out.below B) hF hf hG hS hS2
  have HL := Aside0.mk hl
  have HD := Aside0.mk hd
  clear hr hw hF hf hG hS hS2 hl hd
  generalize gsM F G mem pages most start = rb at *
  unfold gtB
  generalize hR : (rb && (decide (l.length = G.length) && (smB mem most m d && wsB l G))) = R
  have K : (rb = false ∧ R = false) ∨ (rb = true ∧ l.length ≠ G.length ∧ R = false) ∨ (rb = true ∧ l.length = G.length ∧ R = (smB mem most m d && wsB l G)) := by
    subst hR
    cases rb <;> simp
    by_cases a1 : l.length = G.length <;> simp_all
  clear hR
  rcases K with ⟨rfl, rfl⟩ | ⟨rfl, K, rfl⟩ | ⟨rfl, K, hR⟩
  · go_enter Try.func11, Try.ntmps11
    go_wp2_with (first | (go_at_call 29; (with_reducible refine (c1 _ (by with_reducible repeat first | exact Below.refl _ _ | refine below_alloc ?_ _ | refine below_drew1 ?_ | refine pw_below_drewN ?_ _)).mono ?_); rintro e w1 ⟨rfl, hb1⟩; obtain ⟨hc1, hf1⟩ := bcell hb1; have hz1_0 : w.heap.size < w1.heap.size := (by have := hb1.size; first | omega | (simp at this; omega)); have hz1_1 : w.heap.size + 1 < w1.heap.size := (by have := hb1.size; first | omega | (simp at this; omega))))
    go_ret
    exact ⟨rfl, by with_reducible repeat first | exact Below.refl _ _ | refine below_alloc ?_ _ | refine below_drew1 ?_ | refine pw_below_drewN ?_ _ | refine below_step ?_ hb1⟩
  · have d1 : ((l.length : Int) == (G.length : Int)) = false := beq_eq_false_iff_ne.2 (by omega)
    have d2 : ((l.length : Int) != (G.length : Int)) = true := bne_iff_ne.2 (by omega)
    clear K
    go_enter Try.func11, Try.ntmps11
    go_wp2_with (first | (go_at_call 29; (with_reducible refine (c1 _ (by with_reducible repeat first | exact Below.refl _ _ | refine below_alloc ?_ _ | refine below_drew1 ?_ | refine pw_below_drewN ?_ _)).mono ?_); rintro e w1 ⟨rfl, hb1⟩; obtain ⟨hc1, hf1⟩ := bcell hb1; have hz1_0 : w.heap.size < w1.heap.size := (by have := hb1.size; first | omega | (simp at this; omega)); have hz1_1 : w.heap.size + 1 < w1.heap.size := (by have := hb1.size; first | omega | (simp at this; omega))))
    go_ret
    exact ⟨rfl, by with_reducible repeat first | exact Below.refl _ _ | refine below_alloc ?_ _ | refine below_drew1 ?_ | refine pw_below_drewN ?_ _ | refine below_step ?_ hb1⟩
  · have d1 : ((l.length : Int) == (G.length : Int)) = true := beq_iff_eq.2 (by omega)
    have d2 : ((l.length : Int) != (G.length : Int)) = false := bne_eq_false_iff_eq.2 (by omega)
    have HE := Aside0.mk K
    have HNB : Aside0 (wsB l G = false → R = false) := ⟨fun h => by rw [hR, h, Bool.and_false]⟩
    have HYB : Aside0 (wsB l G = true → smB mem most m d = R) := ⟨fun h => by rw [hR, h, Bool.and_true]⟩
    clear hR K
    go_enter Try.func11, Try.ntmps11
    go_wp2_with (first | (go_at_call 29; (with_reducible refine (c1 _ (by with_reducible repeat first | exact Below.refl _ _ | refine below_alloc ?_ _ | refine below_drew1 ?_ | refine pw_below_drewN ?_ _)).mono ?_); rintro e w1 ⟨rfl, hb1⟩; obtain ⟨hc1, hf1⟩ := bcell hb1; have hz1_0 : w.heap.size < w1.heap.size := (by have := hb1.size; first | omega | (simp at this; omega)); have hz1_1 : w.heap.size + 1 < w1.heap.size := (by have := hb1.size; first | omega | (simp at this; omega))))
    have HM0 : Aside0 (MC w w1 Af cf F.length Ag cg G.length mem pages most start) := ⟨⟨by rw [hc1 _ _ (by first | omega | (simp; omega))]; go_simp, by rw [hc1 _ _ (by first | omega | (simp; omega))]; go_simp, by rw [hc1 _ _ (by first | omega | (simp; omega))]; go_simp, by rw [hc1 _ _ (by first | omega | (simp; omega))]; go_simp, by rw [hc1 _ _ (by first | omega | (simp; omega))]; go_simp, by rw [hc1 _ _ (by first | omega | (simp; omega))]; go_simp, hz1_0, by with_reducible repeat first | exact Below.refl _ _ | refine below_alloc ?_ _ | refine below_drew1 ?_ | refine pw_below_drewN ?_ _ | refine below_step ?_ hb1⟩⟩
    have HS0 : Aside0 (SC (w.heap.size + 1) w1 m d A l.length c) := ⟨⟨by rw [hc1 _ _ (by first | omega | (simp <;> omega))] <;> go_simp, by rw [hc1 _ _ (by first | omega | (simp <;> omega))] <;> go_simp, by rw [hc1 _ _ (by first | omega | (simp <;> omega))] <;> go_simp, hz1_1⟩⟩
    clear d1 d2 c1
    clear hc1 hf1 hz1_0 hz1_1 hb1
    go_loopg [22] l.length (fun kq v22 w' => ∃ i : Nat, i + kq = l.length ∧ v22 = .int .i64 i ∧ Aside0 (MC w w' Af cf F.length Ag cg G.length mem pages most start) ∧ Aside0 (SC (w.heap.size + 1) w' m d A l.length c) ∧ Aside0 (∀ j, (h : j < l.length) → (h2 : j < G.length) → j < i → (wdB l[j] && decide (l[j].1 = G[j].1)) = true))
    case atStart => exact ⟨0, by omega, rfl, HM0, HS0, ⟨fun j _ _ h => absurd h (Nat.not_lt_zero _)⟩⟩
    case round =>
      clear HM0 HS0
      obtain ⟨i, hi, rfl, HM, HSC, HA⟩ := hrel
      cases gk with
      | zero =>
        obtain rfl : i = l.length := by omega
        have hd : decide ((l.length : Int) < (l.length : Int)) = false := decide_eq_false (by omega)
        have hR2 : smB mem most m d = R := HYB.out (ws_ok HE.out (fun j h1 h2 => HA.out j h1 h2 h1))
        have HBL := Aside0.mk HM.out.bel
        have m2 := HM.out.c2
        have m4 := HM.out.c4
        have s0 := HSC.out.c0
        have s1 := HSC.out.c1
        have l0 := HM.out.lt
        have l1 := HSC.out.lt
        have cm := fun W => mm_s m d W HD.out
        have hE := toList_nil_iff_emptyBytes d
        clear HA HM HSC HNB HYB
        unfold smB at hR2
        generalize mmB m d.size = mb at *
        cases mem with
        | false =>
          have K : (m ≠ 0 ∧ R = false) ∨ (m = 0 ∧ ¬ d.toList = [] ∧ R = false) ∨ (m = 0 ∧ d = ByteArray.empty ∧ R = true) := by
            subst hR2
            by_cases a3 : m = 0 <;> by_cases a4 : d = ByteArray.empty <;> simp_all
          clear hR2 hE cm
          rcases K with ⟨K, rfl⟩ | ⟨rfl, K, rfl⟩ | ⟨rfl, rfl, rfl⟩
          all_goals
            try have k1 : (m == 0) = false := beq_eq_false_iff_ne.2 K
            go_wp2
            go_ret
            exact ⟨by first | rfl | simp [*], HBL.out⟩
        | true =>
          have K : (mb = false ∧ R = false) ∨ (mb = true ∧ (m == most) = false ∧ R = false) ∨ (mb = true ∧ m = most ∧ R = true) := by
            subst hR2
            cases mb <;> simp
            by_cases a2 : m = most <;> simp_all
          clear hR2 hE
          rcases K with ⟨rfl, rfl⟩ | ⟨rfl, K, rfl⟩ | ⟨rfl, rfl, rfl⟩
          all_goals
            go_wp2_with (first | (go_at_call 38; (with_reducible refine (cm _).mono ?_); rintro e w9 ⟨rfl, hb9⟩; obtain ⟨hc9, hf9⟩ := bcell hb9))
            go_ret
            exact ⟨by first | rfl | simp [*], below_step HBL.out (by with_reducible repeat first | exact Below.refl _ _ | refine below_alloc ?_ _ | refine below_drew1 ?_ | refine pw_below_drewN ?_ _ | refine below_step ?_ hb9)⟩
      | succ k1 =>
        have hil : i < l.length := by omega
        have hig : i < G.length := by have := HE.out; omega
        have hd : decide ((i : Int) < (l.length : Int)) = true := decide_eq_true (by omega)
        obtain ⟨ad, e1, hx0, hx1⟩ := at_wd HW.out i hil
        obtain ⟨ad', e2, hy0, hy1, hy2⟩ := at_gl HR.out.g1 i hig
        subst e1; subst e2
        have hbl := HM.out.bel
        replace hx0 := (hbl.cell (World.block_lt_of_cell? w _ hx0)).trans hx0
        replace hx1 := (hbl.cell (World.block_lt_of_cell? w _ hx1)).trans hx1
        replace hy0 := (hbl.cell (World.block_lt_of_cell? w _ hy0)).trans hy0
        have HN : Aside0 ((wdB l[i] && decide (l[i].1 = G[i].1)) = false → R = false) := ⟨fun h => HNB.out (ws_bad i hil hig h)⟩
        have HY : Aside0 ((wdB l[i] && decide (l[i].1 = G[i].1)) = true → ∀ j, (h : j < l.length) → (h2 : j < G.length) → j < i + 1 → (wdB l[j] && decide (l[j].1 = G[j].1)) = true) := ⟨fun h j h1 h2 hj => by
          by_cases e : j = i
          · subst e; exact h
          · exact HA.out j h1 h2 (by omega)⟩
        have m1 := HM.out.c1
        have ly := World.block_lt_of_cell? wr _ hy0
        have lm := HM.out.lt
        have ls := HSC.out.lt
        clear hbl HA hy1 hy2
        generalize l[i] = x at *
        generalize G[i].1 = gt at *
        obtain ⟨x0, x1⟩ := x
        simp only at hx0 hx1 HN HY
        have cw := fun W => wd_s x0 x1 W
        have q1 : (0 : Int) ≤ (i : Int) := by omega
        have q2 : (i : Int) < (l.length : Int) := by omega
        have q3 : (i : Int) < (G.length : Int) := by omega
        have ew : IntKind.i64.wrap ((i : Int) + 1) = (i : Int) + 1 := by rw [IntKind.wrap_i64]; have := HL.out; omega
        generalize wdB (x0, x1) = wb at *
        cases wb with
        | false =>
          obtain rfl : R = false := HN.out rfl
          clear HN HY
          go_wp2
          refine wp_region_held_drew (S := fun w' => w'.cell? ⟨wr.heap.size, 0, none⟩ = some (.int .i64 x0) ∧ w'.cell? ⟨wr.heap.size, 1, none⟩ = some (.int .u64 x1)) (by kernel_rfl) ?_ (fun hHeld => ?_)
          · refine ⟨?_, ?_⟩ <;> go_simp
          refine wpAnyH_take (i := 0) (v := ?_) rfl (by kernel_rfl) (by kernel_rfl) (by kernel_rfl) (fun _ _ _ h => h) (Or.inl ⟨by rfl, ?_⟩) (by assumption) ?_
          rotate_left
          · intro w hSw; (try dsimp only at hSw); go_simp; try with_reducible rfl
          simp only [List.getElem_toArray, List.getElem_cons_zero, List.getElem_cons_succ, Act.put, List.setIfInBounds_toArray, List.set_cons_zero, List.set_cons_succ]
          refine wpAnyH_ready (rs := [1]) (by kernel_rfl) (by simp) ?_
          refine AllReadyH.cons rfl (fun K hK => ?_) AllReadyH.nil
          go_simp
          go_at_call 37
          with_reducible refine (cw _).mono ?_
          rintro e w2 ⟨rfl, hb2⟩
          refine hK.out _ _ ⟨by rw [hb2.cell (by simp)]; go_simp, by rw [hb2.cell (by simp)]; go_simp⟩ (fun hHeld => ?_)
          clear hK K
          refine wpAnyH_take (i := 2) (v := ?_) rfl (by kernel_rfl) (by kernel_rfl) (by kernel_rfl) (fun _ _ _ h => h) (Or.inl ⟨by rfl, ?_⟩) (by assumption) ?_
          rotate_left
          · intro w hSw; (try dsimp only at hSw); go_simp; try with_reducible rfl
          simp only [List.getElem_toArray, List.getElem_cons_zero, List.getElem_cons_succ, Act.put, List.setIfInBounds_toArray, List.set_cons_zero, List.set_cons_succ]
          refine wpAnyH_take (i := 3) (v := ?_) rfl (by kernel_rfl) (by kernel_rfl) (by kernel_rfl) (fun _ _ _ h => h) (Or.inl ⟨by rfl, ?_⟩) (by assumption) ?_
          rotate_left
          · intro w hSw; (try dsimp only at hSw); go_simp; try with_reducible rfl
          simp only [List.getElem_toArray, List.getElem_cons_zero, List.getElem_cons_succ, Act.put, List.setIfInBounds_toArray, List.set_cons_zero, List.set_cons_succ]
          refine wpAnyH_take (i := 4) (v := undef) rfl (by kernel_rfl) (by kernel_rfl) (by kernel_rfl) (fun _ _ _ h => h) (Or.inr ⟨by kernel_rfl, rfl⟩) (by assumption) ?_
          simp only [List.getElem_toArray, List.getElem_cons_zero, List.getElem_cons_succ, Act.put, List.setIfInBounds_toArray, List.set_cons_zero, List.set_cons_succ]
          refine wpAnyH_take (i := 5) (v := undef) rfl (by kernel_rfl) (by kernel_rfl) (by kernel_rfl) (fun _ _ _ h => h) (Or.inr ⟨by kernel_rfl, rfl⟩) (by assumption) ?_
          simp only [List.getElem_toArray, List.getElem_cons_zero, List.getElem_cons_succ, Act.put, List.setIfInBounds_toArray, List.set_cons_zero, List.set_cons_succ]
          refine wpAnyH_take (i := 6) (v := undef) rfl (by kernel_rfl) (by kernel_rfl) (by kernel_rfl) (fun _ _ _ h => h) (Or.inr ⟨by kernel_rfl, rfl⟩) (by assumption) ?_
          simp only [List.getElem_toArray, List.getElem_cons_zero, List.getElem_cons_succ, Act.put, List.setIfInBounds_toArray, List.set_cons_zero, List.set_cons_succ]
          refine wpAnyH_take (i := 7) (v := undef) rfl (by kernel_rfl) (by kernel_rfl) (by kernel_rfl) (fun _ _ _ h => h) (Or.inr ⟨by kernel_rfl, rfl⟩) (by assumption) ?_
          simp only [List.getElem_toArray, List.getElem_cons_zero, List.getElem_cons_succ, Act.put, List.setIfInBounds_toArray, List.set_cons_zero, List.set_cons_succ]
          refine wpAnyH_take (i := 8) (v := undef) rfl (by kernel_rfl) (by kernel_rfl) (by kernel_rfl) (fun _ _ _ h => h) (Or.inr ⟨by kernel_rfl, rfl⟩) (by assumption) ?_
          simp only [List.getElem_toArray, List.getElem_cons_zero, List.getElem_cons_succ, Act.put, List.setIfInBounds_toArray, List.set_cons_zero, List.set_cons_succ]
          refine wpAnyH_take (i := 9) (v := undef) rfl (by kernel_rfl) (by kernel_rfl) (by kernel_rfl) (fun _ _ _ h => h) (Or.inr ⟨by kernel_rfl, rfl⟩) (by assumption) ?_
          simp only [List.getElem_toArray, List.getElem_cons_zero, List.getElem_cons_succ, Act.put, List.setIfInBounds_toArray, List.set_cons_zero, List.set_cons_succ]
          refine wpAnyH_take (i := 10) (v := undef) rfl (by kernel_rfl) (by kernel_rfl) (by kernel_rfl) (fun _ _ _ h => h) (Or.inr ⟨by kernel_rfl, rfl⟩) (by assumption) ?_
          simp only [List.getElem_toArray, List.getElem_cons_zero, List.getElem_cons_succ, Act.put, List.setIfInBounds_toArray, List.set_cons_zero, List.set_cons_succ]
          refine wpAnyH_take (i := 11) (v := undef) rfl (by kernel_rfl) (by kernel_rfl) (by kernel_rfl) (fun _ _ _ h => h) (Or.inr ⟨by kernel_rfl, rfl⟩) (by assumption) ?_
          simp only [List.getElem_toArray, List.getElem_cons_zero, List.getElem_cons_succ, Act.put, List.setIfInBounds_toArray, List.set_cons_zero, List.set_cons_succ]
          refine wpAnyH_take (i := 12) (v := undef) rfl (by kernel_rfl) (by kernel_rfl) (by kernel_rfl) (fun _ _ _ h => h) (Or.inr ⟨by kernel_rfl, rfl⟩) (by assumption) ?_
          simp only [List.getElem_toArray, List.getElem_cons_zero, List.getElem_cons_succ, Act.put, List.setIfInBounds_toArray, List.set_cons_zero, List.set_cons_succ]
          refine wpAnyH_take (i := 13) (v := ?_) rfl (by kernel_rfl) (by kernel_rfl) (by kernel_rfl) (fun _ _ _ h => h) (Or.inl ⟨by rfl, ?_⟩) (by assumption) ?_
          rotate_left
          · intro w hSw; (try dsimp only at hSw); go_simp; try with_reducible rfl
          simp only [List.getElem_toArray, List.getElem_cons_zero, List.getElem_cons_succ, Act.put, List.setIfInBounds_toArray, List.set_cons_zero, List.set_cons_succ]
          refine wpAnyH_done (by kernel_rfl) ?_ _
          simp only [Exit.then]
          first | (rename_i kk; refine kk _ _ ?_) | (rename_i kk _; refine kk _ _ ?_) | (rename_i kk _ _; refine kk _ _ ?_) | (rename_i kk _ _ _; refine kk _ _ ?_)
          go_wp2
          go_ret
          exact ⟨rfl, below_step HM.out.bel (by with_reducible repeat first | exact Below.refl _ _ | refine below_alloc ?_ _ | refine below_drew1 ?_ | refine pw_below_drewN ?_ _ | refine below_step ?_ hb2)⟩
        | true =>
          by_cases t : x0 = gt
          · subst t
            have HY2 := Aside0.mk (HY.out (by simp))
            clear HN HY
            go_wp2
            first | go_region_held3 (fun w' => w'.cell? ⟨wr.heap.size, 0, none⟩ = some (.int .i64 x0) ∧ w'.cell? ⟨wr.heap.size, 1, none⟩ = some (.int .u64 x1) ∧ w'.cell? ⟨w.heap.size, 1, none⟩ = some (.slice (some ad') G.length cg) ∧ w'.cell? (ad'.add (i * 3)) = some (.int .i64 x0)) (refine ⟨?_, ?_, ?_, ?_⟩ <;> go_simp) (first | (go_at_call 37; (with_reducible refine (cw _).mono ?_); rintro e w2 ⟨rfl, hb2⟩; have j0 : w2.cell? ⟨wr.heap.size, 0, none⟩ = some (.int .i64 x0) := (by rw [hb2.cell (by simp)]; go_simp); have j1 : w2.cell? ⟨wr.heap.size, 1, none⟩ = some (.int .u64 x1) := (by rw [hb2.cell (by simp)]; go_simp); have j2 : w2.cell? ⟨w.heap.size, 1, none⟩ = some (.slice (some ad') G.length cg) := (by rw [hb2.cell (by simp; omega)]; go_simp); have j3 : w2.cell? (ad'.add (i * 3)) = some (.int .i64 x0) := (by rw [hb2.cell (by simp; omega)]; go_simp))) | fail
            all_goals
              simp only [Exit.then]
              first | (rename_i kk; refine kk _ _ ?_) | (rename_i kk _; refine kk _ _ ?_) | (rename_i kk _ _; refine kk _ _ ?_) | (rename_i kk _ _ _; refine kk _ _ ?_)
              go_wp2
              go_roundg k1
              case measure => omega
              case rel => exact ⟨i + 1, by omega, by rw [Int.natCast_add]; rfl, ⟨HM.out.below (by with_reducible repeat first | exact Below.refl _ _ | refine below_alloc ?_ _ | refine below_drew1 ?_ | refine pw_below_drewN ?_ _ | refine below_step ?_ hb2)⟩, ⟨HSC.out.below (by with_reducible repeat first | exact Below.refl _ _ | refine below_alloc ?_ _ | refine below_drew1 ?_ | refine pw_below_drewN ?_ _ | refine below_step ?_ hb2)⟩, HY2⟩
          · obtain rfl : R = false := HN.out (by simp [t])
            have t1 : (x0 == gt) = false := beq_eq_false_iff_ne.2 t
            have t2 : (x0 != gt) = true := bne_iff_ne.2 t
            clear HN HY
            go_wp2
            first | go_region_held3 (fun w' => w'.cell? ⟨wr.heap.size, 0, none⟩ = some (.int .i64 x0) ∧ w'.cell? ⟨wr.heap.size, 1, none⟩ = some (.int .u64 x1) ∧ w'.cell? ⟨w.heap.size, 1, none⟩ = some (.slice (some ad') G.length cg) ∧ w'.cell? (ad'.add (i * 3)) = some (.int .i64 gt)) (refine ⟨?_, ?_, ?_, ?_⟩ <;> go_simp) (first | (go_at_call 37; (with_reducible refine (cw _).mono ?_); rintro e w2 ⟨rfl, hb2⟩; have j0 : w2.cell? ⟨wr.heap.size, 0, none⟩ = some (.int .i64 x0) := (by rw [hb2.cell (by simp)]; go_simp); have j1 : w2.cell? ⟨wr.heap.size, 1, none⟩ = some (.int .u64 x1) := (by rw [hb2.cell (by simp)]; go_simp); have j2 : w2.cell? ⟨w.heap.size, 1, none⟩ = some (.slice (some ad') G.length cg) := (by rw [hb2.cell (by simp; omega)]; go_simp); have j3 : w2.cell? (ad'.add (i * 3)) = some (.int .i64 gt) := (by rw [hb2.cell (by simp; omega)]; go_simp))) | fail
            all_goals
              simp only [Exit.then]
              first | (rename_i kk; refine kk _ _ ?_) | (rename_i kk _; refine kk _ _ ?_) | (rename_i kk _ _; refine kk _ _ ?_) | (rename_i kk _ _ _; refine kk _ _ ?_)
              go_wp2
              go_ret
              exact ⟨rfl, below_step HM.out.bel (by with_reducible repeat first | exact Below.refl _ _ | refine below_alloc ?_ _ | refine below_drew1 ?_ | refine pw_below_drewN ?_ _ | refine below_step ?_ hb2)⟩

end Go.Proofs.Ytfhnffondamhdaa.OwnGtS
namespace Go.Proofs.Ytfhnffondamhdaa.OwnGtL
open Go Go.RowKit Go.Proofs.YtfhnffondamhdaaW.PrintWords Go.Proofs.YtfhnffondamhdaaW.PrintLast Go.Proofs.YtfhnffondamhdaaW.PrintMore Go.Proofs.Ytfhnffondamhdaa.OwnBs Go.Proofs.Ytfhnffondamhdaa.OwnKp Go.Proofs.Ytfhnffondamhdaa.OwnCode Go.Proofs.Ytfhnffondamhdaa.OwnSt Go.Proofs.Ytfhnffondamhdaa.OwnFn Go.Proofs.Ytfhnffondamhdaa.OwnTo Go.Proofs.Ytfhnffondamhdaa.OwnSz Go.Proofs.Ytfhnffondamhdaa.OwnFs Go.Proofs.Ytfhnffondamhdaa.OwnMd Go.Proofs.Ytfhnffondamhdaa.OwnMdW Go.Proofs.Ytfhnffondamhdaa.OwnMdQ Go.Proofs.Ytfhnffondamhdaa.OwnMdE Go.Proofs.Ytfhnffondamhdaa.OwnGs Go.Proofs.Ytfhnffondamhdaa.OwnWd Go.Proofs.Ytfhnffondamhdaa.OwnSs Go.Proofs.Ytfhnffondamhdaa.OwnGt Go.Proofs.Ytfhnffondamhdaa.OwnGtS
set_option linter.unusedVariables false
set_option linter.unusedSimpArgs false
/-- Six cells of a block, a boxed module's. -/
structure M6 (b : Nat) (w : World) (Af : Option Addr) (cf n : Nat) (Ag : Option Addr) (cg k : Nat) (mem : Bool) (pages most start : Int) : Prop where
  c0 : w.cell? ⟨b, 0, none⟩ = some (.slice Af n cf)
  c1 : w.cell? ⟨b, 1, none⟩ = some (.slice Ag k cg)
  c2 : w.cell? ⟨b, 2, none⟩ = some (.bool mem)
  c3 : w.cell? ⟨b, 3, none⟩ = some (.int .i64 pages)
  c4 : w.cell? ⟨b, 4, none⟩ = some (.int .i64 most)
  c5 : w.cell? ⟨b, 5, none⟩ = some (.int .i64 start)
  lt : b < w.heap.size
theorem M6.below {b : Nat} {w w1 : World} {Af cf n Ag cg k mem pages most start} (h : M6 b w Af cf n Ag cg k mem pages most start) (hb : Below w.heap.size w w1) : M6 b w1 Af cf n Ag cg k mem pages most start :=
  ⟨(hb.cell (p := ⟨_, _, none⟩) h.lt).trans h.c0, (hb.cell (p := ⟨_, _, none⟩) h.lt).trans h.c1, (hb.cell (p := ⟨_, _, none⟩) h.lt).trans h.c2, (hb.cell (p := ⟨_, _, none⟩) h.lt).trans h.c3, (hb.cell (p := ⟨_, _, none⟩) h.lt).trans h.c4, (hb.cell (p := ⟨_, _, none⟩) h.lt).trans h.c5, Nat.lt_of_lt_of_le h.lt hb.size⟩
theorem szS_le {n k : Nat} {a : Int} (hn : n ≤ 9223372036854775807) (hk : k ≤ 9223372036854775807) (ha : 0 ≤ a) (ha2 : a ≤ 1048576) (h : ¬ szS n k a < 0) : n ≤ 1048576 ∧ k ≤ 1048576 := by
  unfold szS at h
  split at h
  · omega
  · rename_i h1
    have e1 := leftM_le hn ha ha2 h1
    split at h
    · omega
    · rename_i h2
      have e2 := leftM_le hk e1.2.1 (by omega) h2
      exact ⟨by omega, by omega⟩
set_option maxRecDepth 100000 in
set_option maxHeartbeats 40000000 in
theorem law_GoodState (Af : Option Addr) (cf : Nat) (F : List Rec) (Ag : Option Addr) (cg : Nat) (G : List Glo) (mem : Bool) (pages most start : Int) (m : Int) (d : ByteArray) (A : Option Addr) (c : Nat) (l : List (Int × Int)) (w : World) (hr : MdR w Af cf F Ag cg G) (hF0 : F.length ≤ 9223372036854775807) (hf0 : ∀ f ∈ F, lens0 f) (hG0 : G.length ≤ 9223372036854775807) (hS : -9223372036854775808 ≤ start) (hS2 : start ≤ 9223372036854775807) (hw : Kd.C kW w A l.length l) (hd0 : d.size ≤ 9223372036854775807) (hl0 : l.length ≤ 9223372036854775807) : Calls Try.prog 3 #[mdV Af cf F Ag cg G mem pages most start, sV m d A l.length c] w fun e w' => e = .returned (.bool true) ∧ Below w.heap.size w w' := by
  have HR := Aside0.mk hr
  have HW := Aside0.mk hw
  have cz := fun W (B : Below w.heap.size w W) => szMd Af cf F Ag cg G mem pages most start 1048576 W (HR.out.below B) (by decide) (by decide) hF0
  by_cases z : szM F G 1048576 < 0
  · clear hr hF0 hf0 hG0 hw hd0 hl0 HW
    generalize szM F G 1048576 = q at *
    have hd : decide (q < 0) = true := decide_eq_true z
    go_enter Try.func3, Try.ntmps3
    go_wp2_with (first | (go_at_call 9; (fail_if_success (have _ := hb1)); (with_reducible refine (cz _ (by with_reducible repeat first | exact Below.refl _ _ | refine below_alloc ?_ _ | refine below_drew1 ?_ | refine pw_below_drewN ?_ _)).mono ?_); rintro e w1 ⟨rfl, hb1⟩; obtain ⟨hc1, hf1⟩ := bcell hb1; obtain ⟨_, _, _, _, _, _, hz1_P⟩ : M6 w.heap.size w1 Af cf F.length Ag cg G.length mem pages most start := M6.below (by constructor <;> first | (go_simp; done) | omega | (simp; omega)) hb1; obtain ⟨_, _, _, hz1_Q⟩ : SC (w.heap.size + 1) w1 m d A l.length c := SC.below (by constructor <;> first | (go_simp; done) | omega | (simp; omega)) hb1))
    refine bodyPost_ret (v := .bool true) (by simp [results, Try.results3, go_sem, hc1, hf1, hz1_P, hz1_Q]) rfl ⟨rfl, ?_⟩
    exact (by with_reducible repeat first | exact Below.refl _ _ | refine below_alloc ?_ _ | refine below_drew1 ?_ | refine pw_below_drewN ?_ _ | refine below_step ?_ hb1)
  obtain ⟨gF, gf, gG, q0, q1⟩ := szM_le hF0 hf0 hG0 (by decide) (by decide) z
  generalize szM F G 1048576 = q at *
  have hd : decide (q < 0) = false := decide_eq_false z
  have cz2 := fun W => szSt m d A l.length c q W
  by_cases z' : szS d.size l.length q < 0
  · clear hr hF0 hf0 hG0 hw hd0 hl0 gF gf gG q0 q1
    generalize szS d.size l.length q = q' at *
    have hd' : decide (q' < 0) = true := decide_eq_true z'
    go_enter Try.func3, Try.ntmps3
    go_wp2_with (first | (go_at_call 10; (fail_if_success (have _ := hb2)); have _ := hb1; (with_reducible refine (cz2 _).mono ?_); rintro e w2 ⟨rfl, hb2⟩; obtain ⟨hc2, hf2⟩ := bcell hb2; obtain ⟨_, _, _, _, _, _, hz2_P⟩ : M6 w.heap.size w2 Af cf F.length Ag cg G.length mem pages most start := M6.below (by constructor <;> first | (go_simp; done) | omega | (simp; omega)) hb2; obtain ⟨_, _, _, hz2_Q⟩ : SC (w.heap.size + 1) w2 m d A l.length c := SC.below (by constructor <;> first | (go_simp; done) | omega | (simp; omega)) hb2) | (go_at_call 9; (fail_if_success (have _ := hb1)); (with_reducible refine (cz _ (by with_reducible repeat first | exact Below.refl _ _ | refine below_alloc ?_ _ | refine below_drew1 ?_ | refine pw_below_drewN ?_ _)).mono ?_); rintro e w1 ⟨rfl, hb1⟩; obtain ⟨hc1, hf1⟩ := bcell hb1; obtain ⟨_, _, _, _, _, _, hz1_P⟩ : M6 w.heap.size w1 Af cf F.length Ag cg G.length mem pages most start := M6.below (by constructor <;> first | (go_simp; done) | omega | (simp; omega)) hb1; obtain ⟨_, _, _, hz1_Q⟩ : SC (w.heap.size + 1) w1 m d A l.length c := SC.below (by constructor <;> first | (go_simp; done) | omega | (simp; omega)) hb1))
    refine bodyPost_ret (v := .bool true) (by simp [results, Try.results3, go_sem, hc1, hf1, hz1_P, hz1_Q, hc2, hf2, hz2_P, hz2_Q]) rfl ⟨rfl, ?_⟩
    exact (by with_reducible repeat first | exact Below.refl _ _ | refine below_alloc ?_ _ | refine below_drew1 ?_ | refine pw_below_drewN ?_ _ | refine below_step ?_ hb2 | refine below_step ?_ hb1)
  obtain ⟨gD, gW⟩ := szS_le hd0 hl0 q0 q1 z'
  have LF := Aside0.mk gF
  have Lf := Aside0.mk gf
  have LG := Aside0.mk gG
  have LD := Aside0.mk gD
  have LW := Aside0.mk gW
  have ct := fun W (B : Below w.heap.size w W) => toMd Af cf F Ag cg G mem pages most start W (HR.out.below B) LF.out Lf.out LG.out
  have ct2 := fun W (B : Below w.heap.size w W) => toSt m d A c l W (Kd.C_below HW.out B) LW.out
  have cs := fun A1 c1 D1 d1 A2 c2 W R R' => gst_s A1 c1 F D1 d1 G mem pages most start m d A2 c2 l W R LF.out Lf.out LG.out hS hS2 R' LW.out LD.out
  have ci := fun A1 c1 D1 d1 A2 c2 W R R' => gst_i A1 c1 F D1 d1 G mem pages most start m d A2 c2 l W R LF.out Lf.out LG.out hS hS2 R' LW.out LD.out
  have ce := fun A1 c1 D1 d1 A2 c2 D2 d2 W R R' => eqMd A1 c1 F D1 d1 G mem pages most start A2 c2 D2 d2 W R R' LF.out Lf.out LG.out
  have ce2 := fun A1 c1 A2 c2 W R R' => eqSt m d A1 c1 A2 c2 l W R R' LW.out
  clear hr hF0 hf0 hG0 gF gf gG q0 q1 hw hd0 hl0 gD gW
  generalize szS d.size l.length q = q' at *
  have hd' : decide (q' < 0) = false := decide_eq_false z'
  generalize gtB (gsM F G mem pages most start) mem most G m d l = ra at *
  go_enter Try.func3, Try.ntmps3
  go_wp2_with (first | (go_at_call 10; (fail_if_success (have _ := hb2)); have _ := hb1; (with_reducible refine (cz2 _).mono ?_); rintro e w2 ⟨rfl, hb2⟩; obtain ⟨hc2, hf2⟩ := bcell hb2; obtain ⟨_, _, _, _, _, _, hz2_P⟩ : M6 w.heap.size w2 Af cf F.length Ag cg G.length mem pages most start := M6.below (by constructor <;> first | (go_simp; done) | omega | (simp; omega)) hb2; obtain ⟨_, _, _, hz2_Q⟩ : SC (w.heap.size + 1) w2 m d A l.length c := SC.below (by constructor <;> first | (go_simp; done) | omega | (simp; omega)) hb2) | (go_at_call 9; (fail_if_success (have _ := hb1)); (with_reducible refine (cz _ (by with_reducible repeat first | exact Below.refl _ _ | refine below_alloc ?_ _ | refine below_drew1 ?_ | refine pw_below_drewN ?_ _)).mono ?_); rintro e w1 ⟨rfl, hb1⟩; obtain ⟨hc1, hf1⟩ := bcell hb1; obtain ⟨_, _, _, _, _, _, hz1_P⟩ : M6 w.heap.size w1 Af cf F.length Ag cg G.length mem pages most start := M6.below (by constructor <;> first | (go_simp; done) | omega | (simp; omega)) hb1; obtain ⟨_, _, _, hz1_Q⟩ : SC (w.heap.size + 1) w1 m d A l.length c := SC.below (by constructor <;> first | (go_simp; done) | omega | (simp; omega)) hb1))
  go_region_held_law (fun w' => w'.cell? ⟨w.heap.size, 0, none⟩ = some (.slice Af F.length cf) ∧ w'.cell? ⟨w.heap.size, 1, none⟩ = some (.slice Ag G.length cg) ∧ w'.cell? ⟨w.heap.size, 2, none⟩ = some (.bool mem) ∧ w'.cell? ⟨w.heap.size, 3, none⟩ = some (.int .i64 pages) ∧ w'.cell? ⟨w.heap.size, 4, none⟩ = some (.int .i64 most) ∧ w'.cell? ⟨w.heap.size, 5, none⟩ = some (.int .i64 start) ∧ w'.cell? ⟨w.heap.size + 1, 0, none⟩ = some (.int .i64 m) ∧ w'.cell? ⟨w.heap.size + 1, 1, none⟩ = some (.string d) ∧ w'.cell? ⟨w.heap.size + 1, 2, none⟩ = some (.slice A l.length c)) (refine ⟨?_, ?_, ?_, ?_, ?_, ?_, ?_, ?_, ?_⟩ <;> go_simp) (first | (go_at_call 11; (fail_if_success (have _ := hb5)); have _ := hb4; (with_reducible refine (cs A3 c3 D3 d3 A4 c4 _ (R3.out.below (by with_reducible repeat first | exact Below.refl _ _ | refine below_alloc ?_ _ | refine below_drew1 ?_ | refine pw_below_drewN ?_ _ | refine below_step ?_ hb4)) (Kd.C_below R4.out (by with_reducible repeat first | exact Below.refl _ _ | refine below_alloc ?_ _ | refine below_drew1 ?_ | refine pw_below_drewN ?_ _))).mono ?_); rintro e w5 ⟨rfl, hb5⟩; obtain ⟨hc5, hf5⟩ := bcell hb5; obtain ⟨_, _, _, _, _, _, hz5_P⟩ : M6 w.heap.size w5 Af cf F.length Ag cg G.length mem pages most start := M6.below (by constructor <;> first | (go_simp; done) | omega | (simp; omega)) hb5; obtain ⟨_, _, _, hz5_Q⟩ : SC (w.heap.size + 1) w5 m d A l.length c := SC.below (by constructor <;> first | (go_simp; done) | omega | (simp; omega)) hb5) | (go_at_call 13; (fail_if_success (have _ := hb4)); have _ := hb3; (with_reducible refine (ct2 _ (by with_reducible repeat first | exact Below.refl _ _ | refine below_alloc ?_ _ | refine below_drew1 ?_ | refine pw_below_drewN ?_ _ | refine below_step ?_ hb3 | refine below_step ?_ hb2 | refine below_step ?_ hb1)).mono ?_); rintro e w4 ⟨A4, c4, rfl, R4, _, hb4⟩; obtain ⟨hc4, hf4⟩ := bcell hb4; obtain ⟨_, _, _, _, _, _, hz4_P⟩ : M6 w.heap.size w4 Af cf F.length Ag cg G.length mem pages most start := M6.below (by constructor <;> first | (go_simp; done) | omega | (simp; omega)) hb4; obtain ⟨_, _, _, hz4_Q⟩ : SC (w.heap.size + 1) w4 m d A l.length c := SC.below (by constructor <;> first | (go_simp; done) | omega | (simp; omega)) hb4; replace R4 := Aside0.mk R4) | (go_at_call 12; (fail_if_success (have _ := hb3)); have _ := hb2; (with_reducible refine (ct _ (by with_reducible repeat first | exact Below.refl _ _ | refine below_alloc ?_ _ | refine below_drew1 ?_ | refine pw_below_drewN ?_ _ | refine below_step ?_ hb2 | refine below_step ?_ hb1)).mono ?_); rintro e w3 ⟨A3, c3, D3, d3, rfl, R3, hb3⟩; obtain ⟨hc3, hf3⟩ := bcell hb3; obtain ⟨_, _, _, _, _, _, hz3_P⟩ : M6 w.heap.size w3 Af cf F.length Ag cg G.length mem pages most start := M6.below (by constructor <;> first | (go_simp; done) | omega | (simp; omega)) hb3; obtain ⟨_, _, _, hz3_Q⟩ : SC (w.heap.size + 1) w3 m d A l.length c := SC.below (by constructor <;> first | (go_simp; done) | omega | (simp; omega)) hb3; replace R3 := Aside0.mk R3))
  all_goals
    first | (rename_i kk; refine kk _ _ ?_) | (rename_i kk _; refine kk _ _ ?_) | (rename_i kk _ _; refine kk _ _ ?_) | skip
    go_wp2_with (first | (go_at_call 14; (fail_if_success (have _ := hb8)); have _ := hb7; (with_reducible refine (ci A6 c6 D6 d6 A7 c7 _ (R6.out.below (by with_reducible repeat first | exact Below.refl _ _ | refine below_alloc ?_ _ | refine below_drew1 ?_ | refine pw_below_drewN ?_ _ | refine below_step ?_ hb7)) (Kd.C_below R7.out (by with_reducible repeat first | exact Below.refl _ _ | refine below_alloc ?_ _ | refine below_drew1 ?_ | refine pw_below_drewN ?_ _))).mono ?_); rintro e w8 ⟨rfl, hb8⟩; obtain ⟨hc8, hf8⟩ := bcell hb8; obtain ⟨_, _, _, _, _, _, hz8_P⟩ : M6 w.heap.size w8 Af cf F.length Ag cg G.length mem pages most start := M6.below (by constructor <;> first | (go_simp; done) | omega | (simp; omega)) hb8; obtain ⟨_, _, _, hz8_Q⟩ : SC (w.heap.size + 1) w8 m d A l.length c := SC.below (by constructor <;> first | (go_simp; done) | omega | (simp; omega)) hb8; obtain ⟨_, _, _, _, _, _, hz8_U⟩ : M6 w6.heap.size w8 A6 c6 F.length D6 d6 G.length mem pages most start := M6.below (by constructor <;> first | (go_simp; done) | omega | (simp; omega)) hb8; obtain ⟨_, _, _, hz8_V⟩ : SC w7.heap.size w8 m d A7 l.length c7 := SC.below (by constructor <;> first | (go_simp; done) | omega | (simp; omega)) hb8) | (go_at_call 13; (fail_if_success (have _ := hb7)); have _ := hb6; (with_reducible refine (ct2 _ (by with_reducible repeat first | exact Below.refl _ _ | refine below_alloc ?_ _ | refine below_drew1 ?_ | refine pw_below_drewN ?_ _ | refine below_step ?_ hb6 | refine below_step ?_ hb5 | refine below_step ?_ hb4 | refine below_step ?_ hb3 | refine below_step ?_ hb2 | refine below_step ?_ hb1)).mono ?_); rintro e w7 ⟨A7, c7, rfl, R7, _, hb7⟩; obtain ⟨hc7, hf7⟩ := bcell hb7; obtain ⟨_, _, _, _, _, _, hz7_P⟩ : M6 w.heap.size w7 Af cf F.length Ag cg G.length mem pages most start := M6.below (by constructor <;> first | (go_simp; done) | omega | (simp; omega)) hb7; obtain ⟨_, _, _, hz7_Q⟩ : SC (w.heap.size + 1) w7 m d A l.length c := SC.below (by constructor <;> first | (go_simp; done) | omega | (simp; omega)) hb7; obtain ⟨_, _, _, _, _, _, hz7_U⟩ : M6 w6.heap.size w7 A6 c6 F.length D6 d6 G.length mem pages most start := M6.below (by constructor <;> first | (go_simp; done) | omega | (simp; omega)) hb7; replace R7 := Aside0.mk R7) | (go_at_call 12; (fail_if_success (have _ := hb6)); have _ := hb5; (with_reducible refine (ct _ (by with_reducible repeat first | exact Below.refl _ _ | refine below_alloc ?_ _ | refine below_drew1 ?_ | refine pw_below_drewN ?_ _ | refine below_step ?_ hb5 | refine below_step ?_ hb4 | refine below_step ?_ hb3 | refine below_step ?_ hb2 | refine below_step ?_ hb1)).mono ?_); rintro e w6 ⟨A6, c6, D6, d6, rfl, R6, hb6⟩; obtain ⟨hc6, hf6⟩ := bcell hb6; obtain ⟨_, _, _, _, _, _, hz6_P⟩ : M6 w.heap.size w6 Af cf F.length Ag cg G.length mem pages most start := M6.below (by constructor <;> first | (go_simp; done) | omega | (simp; omega)) hb6; obtain ⟨_, _, _, hz6_Q⟩ : SC (w.heap.size + 1) w6 m d A l.length c := SC.below (by constructor <;> first | (go_simp; done) | omega | (simp; omega)) hb6; replace R6 := Aside0.mk R6))
    go_region_held_law (fun w' => w'.cell? ⟨w6.heap.size, 0, none⟩ = some (.slice A6 F.length c6) ∧ w'.cell? ⟨w6.heap.size, 1, none⟩ = some (.slice D6 G.length d6) ∧ w'.cell? ⟨w6.heap.size, 2, none⟩ = some (.bool mem) ∧ w'.cell? ⟨w6.heap.size, 3, none⟩ = some (.int .i64 pages) ∧ w'.cell? ⟨w6.heap.size, 4, none⟩ = some (.int .i64 most) ∧ w'.cell? ⟨w6.heap.size, 5, none⟩ = some (.int .i64 start) ∧ w'.cell? ⟨w.heap.size, 0, none⟩ = some (.slice Af F.length cf) ∧ w'.cell? ⟨w.heap.size, 1, none⟩ = some (.slice Ag G.length cg) ∧ w'.cell? ⟨w.heap.size, 2, none⟩ = some (.bool mem) ∧ w'.cell? ⟨w.heap.size, 3, none⟩ = some (.int .i64 pages) ∧ w'.cell? ⟨w.heap.size, 4, none⟩ = some (.int .i64 most) ∧ w'.cell? ⟨w.heap.size, 5, none⟩ = some (.int .i64 start)) (refine ⟨?_, ?_, ?_, ?_, ?_, ?_, ?_, ?_, ?_, ?_, ?_, ?_⟩ <;> go_simp) (first | (go_at_call 15; (fail_if_success (have _ := hb10)); have _ := hb9; (with_reducible refine (ce A6 c6 D6 d6 A9 c9 D9 d9 _ (R6.out.below (by with_reducible repeat first | exact Below.refl _ _ | refine below_alloc ?_ _ | refine below_drew1 ?_ | refine pw_below_drewN ?_ _ | refine below_step ?_ hb9 | refine below_step ?_ hb8 | refine below_step ?_ hb7)) (R9.out.below (by with_reducible repeat first | exact Below.refl _ _ | refine below_alloc ?_ _ | refine below_drew1 ?_ | refine pw_below_drewN ?_ _))).mono ?_); rintro e w10 ⟨rfl, hb10⟩; obtain ⟨hc10, hf10⟩ := bcell hb10; obtain ⟨_, _, _, _, _, _, hz10_P⟩ : M6 w.heap.size w10 Af cf F.length Ag cg G.length mem pages most start := M6.below (by constructor <;> first | (go_simp; done) | omega | (simp; omega)) hb10; obtain ⟨_, _, _, hz10_Q⟩ : SC (w.heap.size + 1) w10 m d A l.length c := SC.below (by constructor <;> first | (go_simp; done) | omega | (simp; omega)) hb10; obtain ⟨_, _, _, _, _, _, hz10_U⟩ : M6 w6.heap.size w10 A6 c6 F.length D6 d6 G.length mem pages most start := M6.below (by constructor <;> first | (go_simp; done) | omega | (simp; omega)) hb10; obtain ⟨_, _, _, hz10_V⟩ : SC w7.heap.size w10 m d A7 l.length c7 := SC.below (by constructor <;> first | (go_simp; done) | omega | (simp; omega)) hb10) | (go_at_call 12; (fail_if_success (have _ := hb9)); have _ := hb8; (with_reducible refine (ct _ (by with_reducible repeat first | exact Below.refl _ _ | refine below_alloc ?_ _ | refine below_drew1 ?_ | refine pw_below_drewN ?_ _ | refine below_step ?_ hb8 | refine below_step ?_ hb7 | refine below_step ?_ hb6 | refine below_step ?_ hb5 | refine below_step ?_ hb4 | refine below_step ?_ hb3 | refine below_step ?_ hb2 | refine below_step ?_ hb1)).mono ?_); rintro e w9 ⟨A9, c9, D9, d9, rfl, R9, hb9⟩; obtain ⟨hc9, hf9⟩ := bcell hb9; obtain ⟨_, _, _, _, _, _, hz9_P⟩ : M6 w.heap.size w9 Af cf F.length Ag cg G.length mem pages most start := M6.below (by constructor <;> first | (go_simp; done) | omega | (simp; omega)) hb9; obtain ⟨_, _, _, hz9_Q⟩ : SC (w.heap.size + 1) w9 m d A l.length c := SC.below (by constructor <;> first | (go_simp; done) | omega | (simp; omega)) hb9; obtain ⟨_, _, _, _, _, _, hz9_U⟩ : M6 w6.heap.size w9 A6 c6 F.length D6 d6 G.length mem pages most start := M6.below (by constructor <;> first | (go_simp; done) | omega | (simp; omega)) hb9; obtain ⟨_, _, _, hz9_V⟩ : SC w7.heap.size w9 m d A7 l.length c7 := SC.below (by constructor <;> first | (go_simp; done) | omega | (simp; omega)) hb9; replace R9 := Aside0.mk R9))
    all_goals
      first | (rename_i kk; refine kk _ _ ?_) | (rename_i kk _; refine kk _ _ ?_) | (rename_i kk _ _; refine kk _ _ ?_) | skip
      go_wp2_with fail
      go_region_held_law (fun w' => w'.cell? ⟨w7.heap.size, 0, none⟩ = some (.int .i64 m) ∧ w'.cell? ⟨w7.heap.size, 1, none⟩ = some (.string d) ∧ w'.cell? ⟨w7.heap.size, 2, none⟩ = some (.slice A7 l.length c7) ∧ w'.cell? ⟨w.heap.size + 1, 0, none⟩ = some (.int .i64 m) ∧ w'.cell? ⟨w.heap.size + 1, 1, none⟩ = some (.string d) ∧ w'.cell? ⟨w.heap.size + 1, 2, none⟩ = some (.slice A l.length c)) (refine ⟨?_, ?_, ?_, ?_, ?_, ?_⟩ <;> go_simp) (first | (go_at_call 16; (fail_if_success (have _ := hb12)); have _ := hb11; (with_reducible refine (ce2 A7 c7 A11 c11 _ (Kd.C_below R7.out (by with_reducible repeat first | exact Below.refl _ _ | refine below_alloc ?_ _ | refine below_drew1 ?_ | refine pw_below_drewN ?_ _ | refine below_step ?_ hb11 | refine below_step ?_ hb10 | refine below_step ?_ hb9 | refine below_step ?_ hb8)) (Kd.C_below R11.out (by with_reducible repeat first | exact Below.refl _ _ | refine below_alloc ?_ _ | refine below_drew1 ?_ | refine pw_below_drewN ?_ _))).mono ?_); rintro e w12 ⟨rfl, hb12⟩; obtain ⟨hc12, hf12⟩ := bcell hb12; obtain ⟨_, _, _, _, _, _, hz12_P⟩ : M6 w.heap.size w12 Af cf F.length Ag cg G.length mem pages most start := M6.below (by constructor <;> first | (go_simp; done) | omega | (simp; omega)) hb12; obtain ⟨_, _, _, hz12_Q⟩ : SC (w.heap.size + 1) w12 m d A l.length c := SC.below (by constructor <;> first | (go_simp; done) | omega | (simp; omega)) hb12; obtain ⟨_, _, _, _, _, _, hz12_U⟩ : M6 w6.heap.size w12 A6 c6 F.length D6 d6 G.length mem pages most start := M6.below (by constructor <;> first | (go_simp; done) | omega | (simp; omega)) hb12; obtain ⟨_, _, _, hz12_V⟩ : SC w7.heap.size w12 m d A7 l.length c7 := SC.below (by constructor <;> first | (go_simp; done) | omega | (simp; omega)) hb12) | (go_at_call 13; (fail_if_success (have _ := hb11)); have _ := hb10; (with_reducible refine (ct2 _ (by with_reducible repeat first | exact Below.refl _ _ | refine below_alloc ?_ _ | refine below_drew1 ?_ | refine pw_below_drewN ?_ _ | refine below_step ?_ hb10 | refine below_step ?_ hb9 | refine below_step ?_ hb8 | refine below_step ?_ hb7 | refine below_step ?_ hb6 | refine below_step ?_ hb5 | refine below_step ?_ hb4 | refine below_step ?_ hb3 | refine below_step ?_ hb2 | refine below_step ?_ hb1)).mono ?_); rintro e w11 ⟨A11, c11, rfl, R11, _, hb11⟩; obtain ⟨hc11, hf11⟩ := bcell hb11; obtain ⟨_, _, _, _, _, _, hz11_P⟩ : M6 w.heap.size w11 Af cf F.length Ag cg G.length mem pages most start := M6.below (by constructor <;> first | (go_simp; done) | omega | (simp; omega)) hb11; obtain ⟨_, _, _, hz11_Q⟩ : SC (w.heap.size + 1) w11 m d A l.length c := SC.below (by constructor <;> first | (go_simp; done) | omega | (simp; omega)) hb11; obtain ⟨_, _, _, _, _, _, hz11_U⟩ : M6 w6.heap.size w11 A6 c6 F.length D6 d6 G.length mem pages most start := M6.below (by constructor <;> first | (go_simp; done) | omega | (simp; omega)) hb11; obtain ⟨_, _, _, hz11_V⟩ : SC w7.heap.size w11 m d A7 l.length c7 := SC.below (by constructor <;> first | (go_simp; done) | omega | (simp; omega)) hb11; replace R11 := Aside0.mk R11))
      all_goals
        first | (rename_i kk; refine kk _ _ ?_) | (rename_i kk _; refine kk _ _ ?_) | (rename_i kk _ _; refine kk _ _ ?_) | skip
        go_wp2
        refine bodyPost_ret (v := .bool true) (by simp [results, Try.results3, go_sem, hc1, hf1, hz1_P, hz1_Q, hc2, hf2, hz2_P, hz2_Q, hc3, hf3, hz3_P, hz3_Q, hc4, hf4, hz4_P, hz4_Q, hc5, hf5, hz5_P, hz5_Q, hc6, hf6, hz6_P, hz6_Q, hc7, hf7, hz7_P, hz7_Q, hc8, hf8, hz8_P, hz8_Q, hc9, hf9, hz9_P, hz9_Q, hc10, hf10, hz10_P, hz10_Q, hc11, hf11, hz11_P, hz11_Q, hc12, hf12, hz12_P, hz12_Q, hz7_U, hz8_U, hz9_U, hz10_U, hz11_U, hz12_U, hz8_V, hz9_V, hz10_V, hz11_V, hz12_V]) rfl ⟨rfl, ?_⟩
        exact (by with_reducible repeat first | exact Below.refl _ _ | refine below_alloc ?_ _ | refine below_drew1 ?_ | refine pw_below_drewN ?_ _ | refine below_step ?_ hb12 | refine below_step ?_ hb11 | refine below_step ?_ hb10 | refine below_step ?_ hb9 | refine below_step ?_ hb8 | refine below_step ?_ hb7 | refine below_step ?_ hb6 | refine below_step ?_ hb5 | refine below_step ?_ hb4 | refine below_step ?_ hb3 | refine below_step ?_ hb2 | refine below_step ?_ hb1)
end Go.Proofs.Ytfhnffondamhdaa.OwnGtL
