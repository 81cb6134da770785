/- Texts of points as bytes: walks of our own of AppendRune, put16 and EncodePoints. -/
import Derived.Test.YtchjmkofdiejhaaDoorOwnBs
import Derived.Test.YtchjmkofdiejhaaDoorPGoodPointsx1
import Derived.Test.YtchjmkofdiejhaaDoorPnarrowx1
namespace Go.Proofs.YtchjmkofdiejhaaDoor.OwnText
open Go Go.RowKit Go.Proofs.YtchjmkofdiejhaaDoorW.PrintWords Go.Proofs.YtchjmkofdiejhaaDoorW.PrintLast Go.Proofs.YtchjmkofdiejhaaDoorW.PrintMore Go.Proofs.YtchjmkofdiejhaaDoor.OwnBs
set_option linter.unusedVariables false
set_option linter.unusedSimpArgs false
/-! ### What the codes make of a point -/
def u8M (p : Int) : List Int := if p < 128 then [p] else if p < 2048 then [192 + p / 64, 128 + p % 64] else if p < 65536 then [224 + p / 4096, 128 + p / 64 % 64, 128 + p % 64] else [240 + p / 262144, 128 + p / 4096 % 64, 128 + p / 64 % 64, 128 + p % 64]
def u16M (p : Int) : List Int := if p < 65536 then [p % 256, p / 256] else [(55296 + (p - 65536) / 1024) % 256, (55296 + (p - 65536) / 1024) / 256, (56320 + (p - 65536) % 1024) % 256, (56320 + (p - 65536) % 1024) / 256]
theorem u8M_len (p : Int) : 1 ≤ (u8M p).length ∧ (u8M p).length ≤ 4 := by unfold u8M; split <;> (try split) <;> (try split) <;> simp
theorem u16M_len (p : Int) : 1 ≤ (u16M p).length ∧ (u16M p).length ≤ 4 := by unfold u16M; split <;> simp
theorem pair16 (n : Int) (h0 : 0 ≤ n) (h1 : n < 65536) (w : World) : Calls Tryd.prog 37 #[.int .i64 n] w fun e w' => ∃ v, e = .returned v ∧ Bs w w' v [n % 256, n / 256] := by
  go_enter Tryd.func37, Tryd.ntmps37
  go_wp2
  go_ret
  exact ⟨_, rfl, Bs.lit (Below.refl _ _) [n % 256, n / 256] (by simp)⟩
set_option maxRecDepth 100000 in
set_option maxHeartbeats 4000000 in
theorem nonascii (v : Value) (l : List Int) (p : Int) (w0 w : World) (HB : Bs w0 w v l) (hl : l.length ≤ 900000) (h0 : 128 ≤ p) (h1 : p ≤ 1114111) (h2 : p < 55296 ∨ 57343 < p) : Calls Tryd.prog 36 #[v, .int .i32 p] w fun e w' => ∃ v', e = .returned v' ∧ Bs w0 w' v' (l ++ u8M p) := by
  by_cases c1 : p ≤ 2047
  · go_enter Tryd.func36, Tryd.ntmps36
    go_wp2_with (at_builtin; refine app_lit (w0 := w0) rfl _ _ rfl v l [_, _] rfl rfl HB (by simp; omega) ?_; intro v1 w1 H1)
    go_ret
    exact ⟨_, rfl, by rw [show u8M p = [192 + p / 64, 128 + p % 64] by unfold u8M; rw [if_neg (by omega), if_pos (by omega)]]; exact H1⟩
  · by_cases c2 : p ≤ 65535
    · rcases h2 with h2 | h2
      all_goals
        go_enter Tryd.func36, Tryd.ntmps36
        go_wp2_with (at_builtin; refine app_lit (w0 := w0) rfl _ _ rfl v l [_, _, _] rfl rfl HB (by simp; omega) ?_; intro v1 w1 H1)
        go_ret
        exact ⟨_, rfl, by rw [show u8M p = [224 + p / 4096, 128 + p / 64 % 64, 128 + p % 64] by unfold u8M; rw [if_neg (by omega), if_neg (by omega), if_pos (by omega)]]; exact H1⟩
    · have h3 : 57343 < p := by omega
      go_enter Tryd.func36, Tryd.ntmps36
      go_wp2_with (at_builtin; refine app_lit (w0 := w0) rfl _ _ rfl v l [_, _, _, _] rfl rfl HB (by simp; omega) ?_; intro v1 w1 H1)
      go_ret
      exact ⟨_, rfl, by rw [show u8M p = [240 + p / 262144, 128 + p / 4096 % 64, 128 + p / 64 % 64, 128 + p % 64] by unfold u8M; rw [if_neg (by omega), if_neg (by omega), if_neg (by omega)]]; exact H1⟩
set_option maxRecDepth 100000 in
theorem appendRune (v : Value) (l : List Int) (p : Int) (w0 w : World) (HB : Bs w0 w v l) (hl : l.length ≤ 900000) (h0 : 0 ≤ p) (h1 : p ≤ 1114111) (h2 : p < 55296 ∨ 57343 < p) : Calls Tryd.prog 22 #[v, .int .i32 p] w fun e w' => ∃ v', e = .returned v' ∧ Bs w0 w' v' (l ++ u8M p) := by
  by_cases c1 : p ≤ 127
  · go_enter Tryd.func22, Tryd.ntmps22
    go_wp2_with (at_builtin; refine app_lit (w0 := w0) rfl _ _ rfl v l [_] rfl rfl HB (by simp; omega) ?_; intro v1 w1 H1)
    go_ret
    exact ⟨_, rfl, by rw [show u8M p = [p] by unfold u8M; rw [if_pos (by omega)]]; exact H1⟩
  · go_enter Tryd.func22, Tryd.ntmps22
    go_wp2_with (go_at_call 36; (with_reducible refine (nonascii v l p w0 _ HB hl (by omega) h1 h2).mono ?_); rintro e w1 ⟨v1, rfl, H1⟩)
    go_ret
    exact ⟨_, rfl, H1⟩
set_option maxRecDepth 100000 in
set_option maxHeartbeats 4000000 in
theorem put16 (v : Value) (l : List Int) (p : Int) (w0 w : World) (HB : Bs w0 w v l) (hl : l.length ≤ 900000) (h0 : 0 ≤ p) (h1 : p ≤ 1114111) : Calls Tryd.prog 23 #[v, .int .i64 p] w fun e w' => ∃ v', e = .returned v' ∧ Bs w0 w' v' (l ++ u16M p) := by
  by_cases c1 : p < 65536
  · go_enter Tryd.func23, Tryd.ntmps23
    go_wp2_with (first | (go_at_call 37; (with_reducible refine (pair16 p h0 c1 _).mono ?_); rintro e w1 ⟨v1, rfl, H1⟩; obtain ⟨A1, k1, e1, R1⟩ := H1.reads; subst e1; have H2 := HB.below H1.bel; clear H1) | (at_builtin; refine app_row (w0 := w0) rfl _ _ rfl v l [p % 256, p / 256] _ _ _ rfl rfl H2 R1 (by simp; omega) ?_; intro v3 w3 H3; clear H2 R1))
    go_ret
    exact ⟨_, rfl, by rw [show u16M p = [p % 256, p / 256] by unfold u16M; rw [if_pos c1]]; exact H3⟩
  · have hm : u16M p = [(55296 + (p - 65536) / 1024) % 256, (55296 + (p - 65536) / 1024) / 256, (56320 + (p - 65536) % 1024) % 256, (56320 + (p - 65536) % 1024) / 256] := by unfold u16M; rw [if_neg c1]
    rw [hm]
    clear hm
    have eA : bits .and .i64 (p - 65536) 1023 = (p - 65536) % 1024 := Pl.and_mask .i64 10 (by decide) _
    go_enter Tryd.func23, Tryd.ntmps23
    go_wp2_with fail
    refine (pair16 _ (by omega) (by omega) _).mono ?_
    rintro e w1 ⟨v1, rfl, H1⟩
    obtain ⟨A1, k1, e1, R1⟩ := H1.reads
    subst e1
    have H2 := HB.below H1.bel
    clear H1
    go_wp2_with (at_builtin; refine app_row (w0 := w0) rfl _ _ rfl v l [_, _] _ _ _ rfl rfl H2 R1 (by simp; omega) ?_; intro v3 w3 H3; clear H2 R1)
    refine (pair16 _ (by omega) (by omega) _).mono ?_
    rintro e w4 ⟨v4, rfl, H4⟩
    obtain ⟨A4, k4, e4, R4⟩ := H4.reads
    subst e4
    have H5 := H3.below H4.bel
    clear H4 H3
    go_wp2_with (at_builtin; refine app_row (w0 := w0) rfl _ _ rfl v3 _ [_, _] _ _ _ rfl rfl H5 R4 (by simp; omega) ?_; intro v6 w6 H6; clear H5 R4)
    go_ret
    exact ⟨_, rfl, by rw [List.append_assoc] at H6; exact H6⟩
/-! ### EncodePoints -/
section
open PGoodPoints
def goodB (p : Int) : Bool := decide (0 ≤ p ∧ p ≤ 1114111 ∧ ¬ (55296 ≤ p ∧ p ≤ 57343))
def goodPts (l : List Int) : Bool := l.all goodB && decide (l.length ≤ 300)
theorem goodPoint_told (p : Int) : impl_goodPoint.f p = some (goodB p) := by
  unfold impl_goodPoint.f goodB
  by_cases h1 : p ≥ 0
  · by_cases h2 : p ≤ 1114111
    · by_cases h3 : p < 55296
      · rw [if_pos h1, if_pos h2, if_pos h3, decide_eq_true (by omega)]
      · rw [if_pos h1, if_pos h2, if_neg h3]; simp only [Option.some.injEq, decide_eq_decide]; omega
    · rw [if_pos h1, if_neg h2, decide_eq_false (by omega)]
  · rw [if_neg h1, decide_eq_false (by omega)]
theorem drop_all (l : List Int) (i : Nat) (h : i < l.length) : (l.drop i).all goodB = (goodB l[i] && (l.drop (i + 1)).all goodB) := by
  rw [List.drop_eq_getElem_cons h, List.all_cons]
theorem points_impl (l : List Int) (hl : l.length ≤ 35184372088832) : Ev (fun k => impl_GoodPoints.f k l) (goodPts l) := by
  have key : ∀ (m i : Nat), i + m = l.length → Ev (fun k => impl_GoodPoints.l0 k l (l.length : Int) (i : Int)) ((l.drop i).all goodB) := by
    intro m
    induction m with
    | zero =>
      intro i hi
      refine Pl.ev_const 1 fun k => ?_
      simp only [impl_GoodPoints.l0]
      rw [if_neg (by omega), List.drop_of_length_le (by omega)]
      simp
    | succ m ih =>
      intro i hi
      have hil : i < l.length := by omega
      have hn := ih (i + 1) (by omega)
      have step : ∀ k, impl_GoodPoints.l0 (k + 1) l (l.length : Int) (i : Int) = if goodB l[i] = true then impl_GoodPoints.l0 k l (l.length : Int) ((i + 1 : Nat) : Int) else some false := by
        intro k
        simp only [impl_GoodPoints.l0]
        rw [if_pos (by omega), if_pos (by omega), if_pos (by omega), Pl.rd_at l i hil, Pl.w64s i l.length (by omega) (by omega)]
        simp only [goodPoint_told, Option.bind_some, decide_eq_true_eq]
      by_cases hg : goodB l[i] = true
      · have e : (l.drop i).all goodB = (l.drop (i + 1)).all goodB := by
          rw [drop_all l i hil, hg, Bool.true_and]
        rw [e]
        exact Pl.ev_skip 1 (fun k => by rw [step, if_pos hg]) hn
      · have e : (l.drop i).all goodB = false := by
          rw [drop_all l i hil, Bool.eq_false_iff.2 hg, Bool.false_and]
        rw [e]
        exact Pl.ev_const 1 (fun k => by rw [step, if_neg hg])
  have := key l.length 0 (by omega)
  unfold impl_GoodPoints.f goodPts
  by_cases h : (l.length : Int) > 300
  · simp only [if_pos h]
    rw [decide_eq_false (show ¬ l.length ≤ 300 by omega), Bool.and_false]
    exact Ev.now false
  · simp only [if_neg h]
    rw [decide_eq_true (show l.length ≤ 300 by omega), Bool.and_true]
    simpa using this
end
def narrowB (l : List Int) : Bool := l.all fun p => decide (p < 256)
theorem narrow_told (l : List Int) (hl : l.length ≤ 35184372088832) : Ev (fun k => Pnarrow.impl_narrow.f k l) (narrowB l) := by
  have key : ∀ (m i : Nat), i + m = l.length → Ev (fun k => Pnarrow.impl_narrow.l0 k l (l.length : Int) (i : Int)) ((l.drop i).all fun p => decide (p < 256)) := by
    intro m
    induction m with
    | zero =>
      intro i hi
      refine Pl.ev_const 1 fun k => ?_
      simp only [Pnarrow.impl_narrow.l0]
      rw [if_neg (by omega), List.drop_of_length_le (by omega)]
      simp
    | succ m ih =>
      intro i hi
      have hil : i < l.length := by omega
      have hn := ih (i + 1) (by omega)
      have step : ∀ k, Pnarrow.impl_narrow.l0 (k + 1) l (l.length : Int) (i : Int) = if l[i] ≥ 256 then some false else Pnarrow.impl_narrow.l0 k l (l.length : Int) ((i + 1 : Nat) : Int) := by
        intro k
        simp only [Pnarrow.impl_narrow.l0]
        rw [if_pos (by omega), if_pos (by omega), if_pos (by omega), Pl.rd_at l i hil, Pl.w64s i l.length (by omega) (by omega)]
      rw [List.drop_eq_getElem_cons hil, List.all_cons]
      by_cases hg : l[i] ≥ 256
      · rw [decide_eq_false (by omega), Bool.false_and]
        exact Pl.ev_const 1 (fun k => by rw [step, if_pos hg])
      · rw [decide_eq_true (by omega), Bool.true_and]
        exact Pl.ev_skip 1 (fun k => by rw [step, if_neg hg]) hn
  have := key l.length 0 (by omega)
  unfold Pnarrow.impl_narrow.f narrowB
  simpa using this
theorem points_i (A : Option Addr) (c : Nat) (l : List Int) (w : World) (hr : Kd.C (Kd.int .i64) w A l.length l) (hc : l.length ≤ c) (hl : l.length ≤ 1048576) : Calls Tryd.prog 20 #[.slice A l.length c] w fun e w' => e = .returned (.bool (goodPts l)) ∧ ∃ n, w' = w.drewN n := by
  obtain ⟨k, hk⟩ := (points_impl l (by omega)).rounds
  exact (PGoodPoints.impl_GoodPoints.calls k A c l _ w hr hc hk).mono fun e w' h => ⟨h.1, h.2.out⟩
theorem narrow_i (A : Option Addr) (c : Nat) (l : List Int) (w : World) (hr : Kd.C (Kd.int .i64) w A l.length l) (hc : l.length ≤ c) (hl : l.length ≤ 1048576) : Calls Tryd.prog 21 #[.slice A l.length c] w fun e w' => e = .returned (.bool (narrowB l)) ∧ ∃ n, w' = w.drewN n := by
  obtain ⟨k, hk⟩ := (narrow_told l (by omega)).rounds
  exact (Pnarrow.impl_narrow.calls k A c l _ w hr hc hk).mono fun e w' h => ⟨h.1, h.2.out⟩

def enc1 (code p : Int) : List Int := if code = 1 then u8M p else if code = 2 then u16M p else [p % 256]
def encL (code : Int) (l : List Int) : List Int := l.flatMap (enc1 code)
theorem enc1_len (code p : Int) : 1 ≤ (enc1 code p).length ∧ (enc1 code p).length ≤ 4 := by
  unfold enc1; split
  · exact u8M_len p
  · split
    · exact u16M_len p
    · simp
theorem encL_len (code : Int) (l : List Int) : (encL code l).length ≤ 4 * l.length := by
  unfold encL
  induction l with
  | nil => simp
  | cons p l ih => rw [List.flatMap_cons, List.length_append, List.length_cons]; have := enc1_len code p; omega
theorem encL_snoc (code : Int) (l : List Int) (i : Nat) (h : i < l.length) : encL code (l.take (i + 1)) = encL code (l.take i) ++ enc1 code l[i] := by
  unfold encL; rw [List.take_succ_eq_append_getElem h, List.flatMap_append]; simp
theorem goodPts_at {l : List Int} (h : goodPts l = true) (i : Nat) (hi : i < l.length) : 0 ≤ l[i] ∧ l[i] ≤ 1114111 ∧ (l[i] < 55296 ∨ 57343 < l[i]) := by
  unfold goodPts at h
  rw [Bool.and_eq_true, List.all_eq_true] at h
  have := h.1 l[i] (List.getElem_mem hi)
  unfold goodB at this
  rw [decide_eq_true_eq] at this
  omega
theorem goodPts_len {l : List Int} (h : goodPts l = true) : l.length ≤ 300 := by
  unfold goodPts at h
  rw [Bool.and_eq_true, decide_eq_true_eq] at h
  exact h.2
/-- What EncodePoints tells. -/
def encM (l : List Int) (code : Int) : ByteArray × Bool := if goodPts l = true ∧ 1 ≤ code ∧ code ≤ 3 ∧ (code = 3 → narrowB l = true) then (strOfNums (encL code l), true) else (⟨#[]⟩, false)
set_option maxRecDepth 100000 in
set_option maxHeartbeats 4000000 in
theorem encode_1 (A : Option Addr) (c : Nat) (l : List Int) (w : World) (hr : Kd.C (Kd.int .i64) w A l.length l) (hc : l.length ≤ c) (hl : l.length ≤ 1048576) (g : goodPts l = true) : Calls Tryd.prog 6 #[.slice A l.length c, .int .i64 1] w fun e w' => e = .returned (.tuple #[.string (strOfNums (encL 1 l)), .bool true]) ∧ Below w.heap.size w w' := by
  have cg := fun w hr => points_i A c l w hr hc hl
  skip
  have HR := Aside0.mk hr
  have HG := Aside0.mk g
  have hl3 := goodPts_len g
  rw [g] at cg
  clear hr g
  go_enter Tryd.func6, Tryd.ntmps6
  go_wp2_with (first | (go_at_call 20; (with_reducible refine (cg _ HR.out).mono ?_); rintro e w' ⟨rfl, n, rfl⟩))
  clear cg
  go_loopg [6, 32] l.length (fun kq v6 v32 w' => ∃ i : Nat, i + kq = l.length ∧ v32 = .int .i64 i ∧ Bs w w' v6 (encL 1 (l.take i)))
  case atStart => exact ⟨0, by omega, rfl, Bs.lit (pw_below_drewN (Below.refl _ _) _) [] (by simp)⟩
  case round =>
    obtain ⟨i, hi, rfl, HB⟩ := hrel
    rename_i v6_ _ _
    cases gk with
    | zero =>
      obtain rfl : i = l.length := by omega
      rw [List.take_length] at HB
      have hcv := own_string (P := Tryd.prog) Tryd.underlying22 Tryd.underlying5 Tryd.underlying9 HB.own
      have hd : decide ((l.length : Int) < (l.length : Int)) = false := decide_eq_false (by omega)
      obtain ⟨A6, c6, e6⟩ := HB.form
      subst e6
      go_wp2
      go_ret2
      exact ⟨rfl, HB.bel⟩
    | succ k1 =>
      have hil : i < l.length := by omega
      obtain ⟨p0, p1, p2⟩ := goodPts_at HG.out i hil
      have hlen : (encL 1 (l.take i)).length ≤ 900000 := by have := encL_len 1 (l.take i); rw [List.length_take] at this; omega
      have hsn : encL 1 (l.take (i + 1)) = encL 1 (l.take i) ++ u8M l[i] := by rw [encL_snoc 1 l i hil]; rfl
      have HS := Aside0.mk hsn
      clear hsn
      obtain ⟨ad, e, hx⟩ := Kd.at_int HR.out (i : Int) (by omega) (by omega)
      rw [Pl.rd_at l i hil, Int.toNat_natCast] at hx
      subst e
      replace hx := (HB.bel.cell (World.block_lt_of_cell? w _ hx)).trans hx
      generalize l[i] = p at *
      have hd : decide ((i : Int) < (l.length : Int)) = true := decide_eq_true (by omega)
      obtain ⟨A6, c6, e6⟩ := HB.form
      subst e6
      go_wp2_with (go_at_call 22; (with_reducible refine (appendRune _ _ p w _ HB hlen p0 p1 p2).mono ?_); rintro e w1 ⟨v1, rfl, H1⟩)
      go_roundg k1
      case measure => omega
      case rel => exact ⟨i + 1, by omega, by rw [Int.natCast_add]; rfl, by rw [HS.out]; exact H1⟩

set_option maxRecDepth 100000 in
set_option maxHeartbeats 4000000 in
theorem encode_2 (A : Option Addr) (c : Nat) (l : List Int) (w : World) (hr : Kd.C (Kd.int .i64) w A l.length l) (hc : l.length ≤ c) (hl : l.length ≤ 1048576) (g : goodPts l = true) : Calls Tryd.prog 6 #[.slice A l.length c, .int .i64 2] w fun e w' => e = .returned (.tuple #[.string (strOfNums (encL 2 l)), .bool true]) ∧ Below w.heap.size w w' := by
  have cg := fun w hr => points_i A c l w hr hc hl
  skip
  have HR := Aside0.mk hr
  have HG := Aside0.mk g
  have hl3 := goodPts_len g
  rw [g] at cg
  clear hr g
  go_enter Tryd.func6, Tryd.ntmps6
  go_wp2_with (first | (go_at_call 20; (with_reducible refine (cg _ HR.out).mono ?_); rintro e w' ⟨rfl, n, rfl⟩))
  clear cg
  go_loopg [6, 32] l.length (fun kq v6 v32 w' => ∃ i : Nat, i + kq = l.length ∧ v32 = .int .i64 i ∧ Bs w w' v6 (encL 2 (l.take i)))
  case atStart => exact ⟨0, by omega, rfl, Bs.lit (pw_below_drewN (Below.refl _ _) _) [] (by simp)⟩
  case round =>
    obtain ⟨i, hi, rfl, HB⟩ := hrel
    rename_i v6_ _ _
    cases gk with
    | zero =>
      obtain rfl : i = l.length := by omega
      rw [List.take_length] at HB
      have hcv := own_string (P := Tryd.prog) Tryd.underlying22 Tryd.underlying5 Tryd.underlying9 HB.own
      have hd : decide ((l.length : Int) < (l.length : Int)) = false := decide_eq_false (by omega)
      obtain ⟨A6, c6, e6⟩ := HB.form
      subst e6
      go_wp2
      go_ret2
      exact ⟨rfl, HB.bel⟩
    | succ k1 =>
      have hil : i < l.length := by omega
      obtain ⟨p0, p1, p2⟩ := goodPts_at HG.out i hil
      have hlen : (encL 2 (l.take i)).length ≤ 900000 := by have := encL_len 2 (l.take i); rw [List.length_take] at this; omega
      have hsn : encL 2 (l.take (i + 1)) = encL 2 (l.take i) ++ u16M l[i] := by rw [encL_snoc 2 l i hil]; rfl
      have HS := Aside0.mk hsn
      clear hsn
      obtain ⟨ad, e, hx⟩ := Kd.at_int HR.out (i : Int) (by omega) (by omega)
      rw [Pl.rd_at l i hil, Int.toNat_natCast] at hx
      subst e
      replace hx := (HB.bel.cell (World.block_lt_of_cell? w _ hx)).trans hx
      generalize l[i] = p at *
      have hd : decide ((i : Int) < (l.length : Int)) = true := decide_eq_true (by omega)
      obtain ⟨A6, c6, e6⟩ := HB.form
      subst e6
      go_wp2_with (go_at_call 23; (with_reducible refine (put16 _ _ p w _ HB hlen p0 p1).mono ?_); rintro e w1 ⟨v1, rfl, H1⟩)
      go_roundg k1
      case measure => omega
      case rel => exact ⟨i + 1, by omega, by rw [Int.natCast_add]; rfl, by rw [HS.out]; exact H1⟩

set_option maxRecDepth 100000 in
set_option maxHeartbeats 4000000 in
theorem encode_3 (A : Option Addr) (c : Nat) (l : List Int) (w : World) (hr : Kd.C (Kd.int .i64) w A l.length l) (hc : l.length ≤ c) (hl : l.length ≤ 1048576) (g : goodPts l = true) (gn : narrowB l = true) : Calls Tryd.prog 6 #[.slice A l.length c, .int .i64 3] w fun e w' => e = .returned (.tuple #[.string (strOfNums (encL 3 l)), .bool true]) ∧ Below w.heap.size w w' := by
  have cg := fun w hr => points_i A c l w hr hc hl
  have cn := fun w hr => narrow_i A c l w hr hc hl
  have HR := Aside0.mk hr
  have HG := Aside0.mk g
  have hl3 := goodPts_len g
  rw [g] at cg
  rw [gn] at cn
  clear hr g gn
  go_enter Tryd.func6, Tryd.ntmps6
  go_wp2_with (first | (go_at_call 20; (with_reducible refine (cg _ HR.out).mono ?_); rintro e w' ⟨rfl, n, rfl⟩) | (go_at_call 21; (with_reducible refine (cn _ (Kd.C_drewN HR.out _)).mono ?_); rintro e w' ⟨rfl, n2, rfl⟩))
  clear cg cn
  go_loopg [6, 32] l.length (fun kq v6 v32 w' => ∃ i : Nat, i + kq = l.length ∧ v32 = .int .i64 i ∧ Bs w w' v6 (encL 3 (l.take i)))
  case atStart => exact ⟨0, by omega, rfl, Bs.lit (pw_below_drewN (Below.refl _ _) _) [] (by simp)⟩
  case round =>
    obtain ⟨i, hi, rfl, HB⟩ := hrel
    rename_i v6_ _ _
    cases gk with
    | zero =>
      obtain rfl : i = l.length := by omega
      rw [List.take_length] at HB
      have hcv := own_string (P := Tryd.prog) Tryd.underlying22 Tryd.underlying5 Tryd.underlying9 HB.own
      have hd : decide ((l.length : Int) < (l.length : Int)) = false := decide_eq_false (by omega)
      obtain ⟨A6, c6, e6⟩ := HB.form
      subst e6
      go_wp2
      go_ret2
      exact ⟨rfl, HB.bel⟩
    | succ k1 =>
      have hil : i < l.length := by omega
      obtain ⟨p0, p1, p2⟩ := goodPts_at HG.out i hil
      have hlen : (encL 3 (l.take i)).length ≤ 900000 := by have := encL_len 3 (l.take i); rw [List.length_take] at this; omega
      have hsn : encL 3 (l.take (i + 1)) = encL 3 (l.take i) ++ [l[i] % 256] := by rw [encL_snoc 3 l i hil]; rfl
      have HS := Aside0.mk hsn
      clear hsn
      obtain ⟨ad, e, hx⟩ := Kd.at_int HR.out (i : Int) (by omega) (by omega)
      rw [Pl.rd_at l i hil, Int.toNat_natCast] at hx
      subst e
      replace hx := (HB.bel.cell (World.block_lt_of_cell? w _ hx)).trans hx
      generalize l[i] = p at *
      have hd : decide ((i : Int) < (l.length : Int)) = true := decide_eq_true (by omega)
      obtain ⟨A6, c6, e6⟩ := HB.form
      subst e6
      go_wp2_with (at_builtin; refine app_lit (w0 := w) rfl _ _ rfl (.slice A6 (encL 3 (l.take i)).length c6) _ [_] rfl rfl HB (by simp only [List.length_cons, List.length_nil]; omega) ?_; intro v1 w1 H1)
      go_roundg k1
      case measure => omega
      case rel => exact ⟨i + 1, by omega, by rw [Int.natCast_add]; rfl, by rw [HS.out]; exact H1⟩

theorem encode_i (A : Option Addr) (c : Nat) (l : List Int) (code : Int) (w : World) (hr : Kd.C (Kd.int .i64) w A l.length l) (hc : l.length ≤ c) (hl : l.length ≤ 1048576) : Calls Tryd.prog 6 #[.slice A l.length c, .int .i64 code] w fun e w' => e = .returned (.tuple #[.string (encM l code).1, .bool (encM l code).2]) ∧ Below w.heap.size w w' := by
  have cg := fun w hr => points_i A c l w hr hc hl
  have cn := fun w hr => narrow_i A c l w hr hc hl
  have HR := Aside0.mk hr
  clear hr
  have early : ∀ (g : goodPts l = false ∨ (goodPts l = true ∧ (code < 1 ∨ 3 < code ∨ (code = 3 ∧ narrowB l = false)))), Calls Tryd.prog 6 #[.slice A l.length c, .int .i64 code] w fun e w' => e = .returned (.tuple #[.string ⟨#[]⟩, .bool false]) ∧ Below w.heap.size w w' := by
    intro g
    rcases g with g | ⟨g, g1 | g1 | ⟨rfl, g1⟩⟩
    · rw [g] at cg
      clear g cn
      go_enter Tryd.func6, Tryd.ntmps6
      go_wp2_with (go_at_call 20; (with_reducible refine (cg _ HR.out).mono ?_); rintro e w' ⟨rfl, n, rfl⟩)
      all_goals go_ret2
      all_goals exact ⟨rfl, pw_below_drewN (Below.refl _ _) _⟩
    · rw [g] at cg
      clear g cn
      go_enter Tryd.func6, Tryd.ntmps6
      go_wp2_with (go_at_call 20; (with_reducible refine (cg _ HR.out).mono ?_); rintro e w' ⟨rfl, n, rfl⟩)
      all_goals go_ret2
      all_goals exact ⟨rfl, pw_below_drewN (Below.refl _ _) _⟩
    · rw [g] at cg
      clear g cn
      go_enter Tryd.func6, Tryd.ntmps6
      go_wp2_with (go_at_call 20; (with_reducible refine (cg _ HR.out).mono ?_); rintro e w' ⟨rfl, n, rfl⟩)
      all_goals go_ret2
      all_goals exact ⟨rfl, pw_below_drewN (Below.refl _ _) _⟩
    · rw [g] at cg
      rw [g1] at cn
      clear g g1
      go_enter Tryd.func6, Tryd.ntmps6
      go_wp2_with (first | (go_at_call 20; (with_reducible refine (cg _ HR.out).mono ?_); rintro e w' ⟨rfl, n, rfl⟩) | (go_at_call 21; (with_reducible refine (cn _ (Kd.C_drewN HR.out _)).mono ?_); rintro e w' ⟨rfl, n2, rfl⟩))
      all_goals go_ret2
      all_goals exact ⟨rfl, pw_below_drewN (Below.refl _ _) _⟩
  by_cases hg : goodPts l = true ∧ 1 ≤ code ∧ code ≤ 3 ∧ (code = 3 → narrowB l = true)
  · have hm : encM l code = (strOfNums (encL code l), true) := by unfold encM; rw [if_pos hg]
    rw [hm]
    obtain ⟨g, g1, g2, g3⟩ := hg
    obtain rfl | rfl | rfl : code = 1 ∨ code = 2 ∨ code = 3 := by omega
    · exact encode_1 A c l w HR.out hc hl g
    · exact encode_2 A c l w HR.out hc hl g
    · exact encode_3 A c l w HR.out hc hl g (g3 rfl)
  · have hm : encM l code = (⟨#[]⟩, false) := by unfold encM; rw [if_neg hg]
    rw [hm]
    refine early ?_
    by_cases g : goodPts l = true
    · refine .inr ⟨g, ?_⟩
      by_cases g1 : code < 1
      · exact .inl g1
      · by_cases g2 : 3 < code
        · exact .inr (.inl g2)
        · refine .inr (.inr ⟨?_, ?_⟩)
          · have := fun h => hg ⟨g, by omega, by omega, h⟩
            have h3 : ¬ code ≠ 3 := fun h => this (fun h' => absurd h' h)
            omega
          · cases h : narrowB l with
            | false => rfl
            | true => exact absurd ⟨g, by omega, by omega, fun _ => h⟩ hg
    · exact .inl (Bool.eq_false_iff.2 g)
end Go.Proofs.YtchjmkofdiejhaaDoor.OwnText
