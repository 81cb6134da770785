/- Rows of bytes of a call's own: made, appended to, turned to a text; lemmas for walks of our own; no condition of its own. Kinds told again under other names; instructions as pairs of numbers; rows of bytes and texts; no condition of its own. Code: what both sides hold good: by printed walks of the parts. Four rows of a call's own that are written in turn (numbers, numbers, bools, rows of numbers): what each event leaves of them. A body's ends, the reference's side: a walk of our own. How deep a body is, the program's side: a walk of our own. How deep a body is: both sides tell one thing; plain lemmas over what the walks compute. Funcs: what is good of them, their copies, sizes and comparisons: by printed walks of the parts and walks of our own. The statement's own copies of rows and of funcs: walks of our own. Like rows and like funcs are told so: walks of our own. Sizes of funcs: walks of our own. Rows of funcs: read, and the statement's own copy of them: a walk of our own. Modules: the statement's own copy: walks of our own. The copy of a module: a walk of our own. Modules: their sizes and their comparison: walks of our own. A module's size; two like modules: walks of our own. What is good of a module; the parts of both sides' walks. GoodShape, the program: a walk of our own. GoodShape, the reference: a walk of our own. -/
import Derived.Test.YtfhnffondamhdaaPlainA
import Derived.Test.YtfhnffondamhdaaProg
import Derived.Outline
import Derived.WalkKit
import Derived.Lib.Hide
import Derived.RegionTactic
import Derived.ChangeAlike
import Derived.Deep.QuietTactic
import Derived.Deep.DeepCutAuto
import Derived.Deep.LoopGhost
import Derived.BigQuiet
import Derived.Test.YtfhnffondamhdaaPl6Goodx3
import Derived.Test.YtfhnffondamhdaaPgoodCodex3
import Derived.Test.YtfhnffondamhdaaPopensx1
import Derived.Test.YtfhnffondamhdaaPgoodTypesx1
import Derived.Test.YtfhnffondamhdaaPl7Typesx1
import Derived.Deep.RegionHeldLaw
import Derived.Test.YtfhnffondamhdaaPeqModulex0
import Derived.Lib.Builder
import Derived.Test.YtfhnffondamhdaaPgoodGlobalx1
namespace Go.Proofs.Ytfhnffondamhdaa.OwnBs
open Go Go.RowKit Go.Proofs.YtfhnffondamhdaaW.PrintWords Go.Proofs.YtfhnffondamhdaaW.PrintLast Go.Proofs.YtfhnffondamhdaaW.PrintMore
set_option linter.unusedVariables false
set_option linter.unusedSimpArgs false
theorem bcell {W w1 : World} (hb : Below W.heap.size W w1) : (∀ b o, b < W.heap.size → w1.cell? ⟨b, o, none⟩ = W.cell? ⟨b, o, none⟩) ∧ (∀ b o, b < W.heap.size → w1.frozen? ⟨b, o, none⟩ = W.frozen? ⟨b, o, none⟩) :=
  ⟨fun b o h => hb.cell (p := ⟨b, o, none⟩) h, fun b o h => hb.frozen (p := ⟨b, o, none⟩) h⟩
theorem info_u8 : (Try.prog.info? 5).map (fun i => (i.zero, i.size, i.bytes)) = some (some (.int .u8 0), 1, 1) := by kernel_rfl
/-- v is a row of bytes of the call's own (the call began at w0), and reads as l. -/
structure Bs (w0 w : World) (v : Value) (l : List Int) : Prop where
  own : w.ownsRow w0.heap.size 5 1 v l.length (nums .u8 l)
  bel : Below w0.heap.size w0 w
theorem Bs.alloc {w0 w : World} {v : Value} {l : List Int} (h : Bs w0 w v l) (o : Obj) : Bs w0 (w.alloc o) v l := ⟨h.own.alloc o, below_alloc h.bel o⟩
theorem Bs.drew {w0 w : World} {v : Value} {l : List Int} (h : Bs w0 w v l) : Bs w0 w.drew v l := ⟨own_drew h.own, below_drew1 h.bel⟩
theorem Bs.drewN {w0 w : World} {v : Value} {l : List Int} (h : Bs w0 w v l) (n : Nat) : Bs w0 (w.drewN n) v l := ⟨h.own, pw_below_drewN h.bel n⟩
theorem Bs.below {w0 w w1 : World} {v : Value} {l : List Int} (h : Bs w0 w v l) (hb : Below w.heap.size w w1) : Bs w0 w1 v l := ⟨pw_own_below h.own hb, below_step h.bel hb⟩
theorem Bs.form {w0 w : World} {v : Value} {l : List Int} (h : Bs w0 w v l) : ∃ A c, v = .slice A l.length c := own_slice h.own
theorem Bs.reads {w0 w : World} {v : Value} {l : List Int} (h : Bs w0 w v l) : ∃ A c, v = .slice A l.length c ∧ ReadsInt w .u8 A l.length l := own_reads h.own
theorem Bs.nil {w0 w : World} (h : Below w0.heap.size w0 w) : Bs w0 w (.slice none 0 0) [] := ⟨own_nil _ _ _ _, h⟩
theorem Bs.lit {w0 w : World} (h : Below w0.heap.size w0 w) (l : List Int) (hl : l.length ≤ 1000000) : Bs w0 (w.alloc (.cells (nums .u8 l).toArray 5)) (.slice (some ⟨w.heap.size, 0, none⟩) l.length l.length) l :=
  ⟨own_lit w _ _ .u8 l h.size (by omega), below_alloc h _⟩
theorem Bs.up {w0 w1 w : World} {v : Value} {l : List Int} (h0 : Below w0.heap.size w0 w1) (h : Bs w1 w v l) : Bs w0 w v l := ⟨by
  have := h.own
  refine ⟨this.1, ?_⟩
  rcases this.2 with h | ⟨g, cap, cur, h1, h2, h3⟩
  · exact .inl h
  · exact .inr ⟨g, cap, cur, h1, Nat.le_trans h0.size h2, h3⟩, below_step h0 h.bel⟩
section
variable {ops : Array Oper} {rest : List Oper} {o : Oper} {a : Act} {Q : Exit → Act → World → Prop}
/-- append(v, ys...), ys laid in a new block just now. -/
theorem app_lit {w0 W : World} (hgd : o.guard = none) (s x : Operand) (ho : o.op = .call { callee := .builtin .append, args := #[s, x], argTypes := #[111, 111] })
    (v : Value) (l ys : List Int) (hs : a.eval s = v) (hx : a.eval x = .slice (some ⟨W.heap.size, 0, none⟩) ys.length ys.length) (HB : Bs w0 W v l) (hl : l.length + ys.length ≤ 1000000)
    (h : ∀ v1 w1, Bs w0 w1 v1 (l ++ ys) → wpList Try.prog ops Q rest (a.put o.dst v1) w1) : wpList Try.prog ops Q (o :: rest) a (W.alloc (.cells (nums .u8 ys).toArray 5)) := by
  obtain ⟨A, c, e, hr⟩ := (Bs.lit (w0 := W) (Below.refl _ _) ys (by omega)).reads
  injection e with e1 e2 e3
  subst e1
  refine print_append_row (w0 := w0) w0.heap.size hgd s x 111 5 .u8 1 ho Try.underlying111 info_u8 (by decide) v l ys _ _ _ hs hx (HB.own.alloc _) hr (below_alloc HB.bel _) (Nat.le_trans HB.bel.size (by simp)) (by omega) ?_
  intro v1 w1 h1 h2 _ _
  exact h v1 w1 ⟨h1, h2⟩
/-- The same, the new block's number spelt otherwise; what is no block of v's stays. -/
theorem app_litg {w0 W : World} (hgd : o.guard = none) (s x : Operand) (ho : o.op = .call { callee := .builtin .append, args := #[s, x], argTypes := #[111, 111] })
    (v : Value) (l ys : List Int) (hs : a.eval s = v) (b : Nat) (hx : a.eval x = .slice (some ⟨b, 0, none⟩) ys.length ys.length) (hb : b = W.heap.size) (HB : Bs w0 W v l) (hl : l.length + ys.length ≤ 1000000)
    (h : ∀ v1 w1, Bs w0 w1 v1 (l ++ ys) → (W.alloc (.cells (nums .u8 ys).toArray 5)).grownBy w1 v.ownBlock → wpList Try.prog ops Q rest (a.put o.dst v1) w1) : wpList Try.prog ops Q (o :: rest) a (W.alloc (.cells (nums .u8 ys).toArray 5)) := by
  subst hb
  obtain ⟨A, c, e, hr⟩ := (Bs.lit (w0 := W) (Below.refl _ _) ys (by omega)).reads
  injection e with e1 e2 e3
  subst e1
  refine print_append_row (w0 := w0) w0.heap.size hgd s x 111 5 .u8 1 ho Try.underlying111 info_u8 (by decide) v l ys _ _ _ hs hx (HB.own.alloc _) hr (below_alloc HB.bel _) (Nat.le_trans HB.bel.size (by simp)) (by omega) ?_
  intro v1 w1 h1 h2 h3 _
  exact h v1 w1 ⟨h1, h2⟩ h3
/-- append(v, ys...), ys another row that is read. -/
theorem app_row {w0 W : World} (hgd : o.guard = none) (s x : Operand) (ho : o.op = .call { callee := .builtin .append, args := #[s, x], argTypes := #[111, 111] })
    (v : Value) (l ys : List Int) (A : Option Addr) (m c : Nat) (hs : a.eval s = v) (hx : a.eval x = .slice A m c) (HB : Bs w0 W v l) (HR : ReadsInt W .u8 A m ys) (hl : l.length + m ≤ 1000000)
    (h : ∀ v1 w1, Bs w0 w1 v1 (l ++ ys) → wpList Try.prog ops Q rest (a.put o.dst v1) w1) : wpList Try.prog ops Q (o :: rest) a W := by
  refine print_append_row (w0 := w0) w0.heap.size hgd s x 111 5 .u8 1 ho Try.underlying111 info_u8 (by decide) v l ys A m c hs hx HB.own HR HB.bel HB.bel.size (by omega) ?_
  intro v1 w1 h1 h2 _ _
  exact h v1 w1 ⟨h1, h2⟩
end
end Go.Proofs.Ytfhnffondamhdaa.OwnBs
namespace Go.Proofs.Ytfhnffondamhdaa.OwnKp
open Go Go.RowKit Go.Proofs.YtfhnffondamhdaaW.PrintWords Go.Proofs.YtfhnffondamhdaaW.PrintLast Go.Proofs.YtfhnffondamhdaaW.PrintMore Go.Proofs.Ytfhnffondamhdaa.OwnBs
set_option linter.unusedVariables false
set_option linter.unusedSimpArgs false
theorem C_iso {α β : Type} {d : Kd α} {f : β → α} {w : World} {A : Option Addr} {n : Nat} {l : List β} : Kd.C (Kd.iso d f) w A n l ↔ Kd.C d w A n (l.map f) := by
  constructor
  · rintro ⟨h1, h2, h3⟩
    refine ⟨by rw [List.length_map]; exact h1, h2, fun hn => ?_⟩
    obtain ⟨ad, e, h4⟩ := h3 hn
    refine ⟨ad, e, fun j p hj => ?_⟩
    rw [List.getElem?_map, Option.map_eq_some_iff] at hj
    obtain ⟨x, hx, rfl⟩ := hj
    exact h4 j x hx
  · rintro ⟨h1, h2, h3⟩
    refine ⟨by rw [List.length_map] at h1; exact h1, h2, fun hn => ?_⟩
    obtain ⟨ad, e, h4⟩ := h3 hn
    refine ⟨ad, e, fun j p hj => ?_⟩
    exact h4 j (f p) (by rw [List.getElem?_map, hj]; rfl)
theorem C_ofmap {α β : Type} {d : Kd α} {f : β → α} {g : α → β} (hfg : ∀ a, f (g a) = a) {w : World} {A : Option Addr} {n : Nat} {l : List α} (h : Kd.C d w A n l) : Kd.C (Kd.iso d f) w A n (l.map g) := by
  rw [C_iso, List.map_map, show f ∘ g = id from funext hfg, List.map_id]
  exact h
theorem C_tomap {α β : Type} {d : Kd α} {f : β → α} {w : World} {A : Option Addr} {n : Nat} {l : List β} (h : Kd.C (Kd.iso d f) w A n l) : Kd.C d w A n (l.map f) := C_iso.1 h
/-- An instruction: two numbers. -/
abbrev kI : Kd (Int × Int) := Kd.pair (Kd.int .i64) (Kd.int .i64)
theorem at_ins {w : World} {A : Option Addr} {n : Nat} {l : List (Int × Int)} (h : Kd.C kI w A n l) (i : Nat) (hi : i < l.length) : ∃ ad, A = some ad ∧ w.cell? (ad.add (i * 2)) = some (.int .i64 l[i].1) ∧ w.cell? ⟨(ad.add (i * 2)).block, (ad.add (i * 2)).off + 1, none⟩ = some (.int .i64 l[i].2) := by
  obtain ⟨h1, h2, h3⟩ := h
  obtain ⟨ad, e, h4⟩ := h3 (by omega)
  obtain ⟨c, hc, hk, hu⟩ := h4 i l[i] (List.getElem?_eq_getElem hi)
  obtain ⟨c0, c1, rfl, k0, k1⟩ := hk
  have e0 : c0 = [.int .i64 l[i].1] := k0
  have e1 : c1 = [.int .i64 l[i].2] := k1
  subst e0; subst e1
  refine ⟨ad, e, ?_, ?_⟩
  · exact hu 0 _ rfl
  · rw [← add_field ad (i * 2) 1 (by decide)]
    exact hu 1 _ rfl
/-! ### Texts and rows of bytes -/
theorem bytesOf_strOfNums (l : List Int) (h : ∀ x ∈ l, 0 ≤ x ∧ x < 256) : bytesOf (strOfNums l) = l := by
  unfold bytesOf strOfNums
  simp only [List.map_map]
  apply List.ext_getElem
  · simp
  · intro i h1 h2
    simp only [List.getElem_map, Function.comp_apply]
    have := h l[i] (List.getElem_mem h2)
    simp
    omega
theorem strOfNums_bytesOf (s : ByteArray) : strOfNums (bytesOf s) = s := by
  unfold bytesOf strOfNums
  rw [List.map_map, show ((fun n : Int => UInt8.ofNat n.toNat) ∘ fun b : UInt8 => (b.toNat : Int)) = id from funext fun b => by simp, List.map_id]
theorem strOfNums_append (a b : List Int) : strOfNums (a ++ b) = strOfNums a ++ strOfNums b := by
  unfold strOfNums
  rw [List.map_append]
  apply ByteArray.ext
  simp
theorem bytesOf_append (a b : ByteArray) : bytesOf (a ++ b) = bytesOf a ++ bytesOf b := by
  unfold bytesOf
  simp
section
variable {ops : Array Oper} {rest : List Oper} {o : Oper} {a : Act} {Q : Exit → Act → World → Prop}
/-- append(v, s...), s a text. -/
theorem app_str {w0 W : World} (hgd : o.guard = none) (s x : Operand) (ho : o.op = .call { callee := .builtin .append, args := #[s, x], argTypes := #[111, 9] })
    (v : Value) (l : List Int) (y : ByteArray) (hs : a.eval s = v) (hx : a.eval x = .string y) (HB : Bs w0 W v l) (hl : l.length + y.size ≤ 1000000)
    (h : ∀ v1 w1, Bs w0 w1 v1 (l ++ bytesOf y) → wpList Try.prog ops Q rest (a.put o.dst v1) w1) : wpList Try.prog ops Q (o :: rest) a W := by
  refine print_append_str (w0 := w0) w0.heap.size hgd s x 111 9 5 ho Try.underlying111 Try.underlying9 info_u8 v l y hs hx HB.own HB.bel HB.bel.size (by omega) ?_
  intro v1 w1 h1 h2 _
  exact h v1 w1 ⟨h1, h2⟩
end
/-- string([]byte{..}) of what was laid just now. -/
theorem lit_str (l : List Int) (hl : l.length ≤ 1000000) (X : World) : (convert 111 9 (.slice (some ⟨X.heap.size, 0, none⟩) l.length l.length)).run Try.prog (X.alloc (.cells (nums .u8 l).toArray 5)) = .ok (.string (strOfNums l)) (X.alloc (.cells (nums .u8 l).toArray 5)) :=
  own_string (P := Try.prog) Try.underlying111 Try.underlying5 Try.underlying9 (Bs.lit (w0 := X) (Below.refl _ _) l hl).own
theorem lit1_str (x : Int) (X : World) : (convert 111 9 (.slice (some ⟨X.heap.size, 0, none⟩) 1 1)).run Try.prog (X.alloc (.cells #[.int .u8 x] 5)) = .ok (.string (strOfNums [x])) (X.alloc (.cells #[.int .u8 x] 5)) := lit_str [x] (by simp) X
theorem lit1_str1 (x : Int) (X : World) (o : Obj) : (convert 111 9 (.slice (some ⟨X.heap.size + 1, 0, none⟩) 1 1)).run Try.prog ((X.alloc o).alloc (.cells #[.int .u8 x] 5)) = .ok (.string (strOfNums [x])) ((X.alloc o).alloc (.cells #[.int .u8 x] 5)) := by
  have := lit1_str x (X.alloc o)
  rwa [show (X.alloc o).heap.size = X.heap.size + 1 by simp] at this
theorem lit1_str2 (x : Int) (X : World) (o o2 : Obj) (n : Nat) : (convert 111 9 (.slice (some ⟨X.heap.size + 1 + 1, 0, none⟩) 1 1)).run Try.prog ((((X.alloc o).alloc o2).drewN n).alloc (.cells #[.int .u8 x] 5)) = .ok (.string (strOfNums [x])) ((((X.alloc o).alloc o2).drewN n).alloc (.cells #[.int .u8 x] 5)) := by
  have := lit1_str x (((X.alloc o).alloc o2).drewN n)
  rwa [show (((X.alloc o).alloc o2).drewN n).heap.size = X.heap.size + 1 + 1 by simp] at this
end Go.Proofs.Ytfhnffondamhdaa.OwnKp
namespace Go.Proofs.Ytfhnffondamhdaa.OwnCode
open Go Go.RowKit Go.Proofs.YtfhnffondamhdaaW.PrintWords Go.Proofs.YtfhnffondamhdaaW.PrintLast Go.Proofs.YtfhnffondamhdaaW.PrintMore Go.Proofs.Ytfhnffondamhdaa.OwnBs Go.Proofs.Ytfhnffondamhdaa.OwnKp
set_option linter.unusedVariables false
set_option linter.unusedSimpArgs false
section
open Pl6Good PgoodCode
theorem l1In_told (a b c : Int) : spec_l1In.f a b c = some (decide (b ≤ a ∧ a ≤ c)) := by
  unfold spec_l1In.f
  by_cases h : b ≤ a <;> simp [h]

/-! ### What an instruction has as A: both tell it alike, the program one more -/
def shapeM (op : Int) : Int := if 0 ≤ op ∧ op ≤ 180 then (spec_l6Shape.f 5 op).getD 0 else -1
theorem shape_far (k : Nat) (op : Int) (h : op < 0 ∨ 180 < op) : spec_l6Shape.f (k + 5) op = some (-1) ∧ impl_formOf.f (k + 5) op = some 0 := by
  have hb : ∀ c : Int, 0 ≤ c → c ≤ 180 → (op == c) = false := fun c h0 h1 => by simp; omega
  constructor
  · unfold spec_l6Shape.f
    iterate 13 rw [if_neg (by omega)]
    rw [hb 180 (by decide) (by decide)]
    simp only [spec_l6Shape.j0]
    iterate 3 rw [if_neg (by first | decide | omega)]
    rw [hb 4 (by decide) (by decide)]
    simp only [spec_l6Shape.j1]
    iterate 8 rw [if_neg (by first | decide | omega)]
    rw [hb 36 (by decide) (by decide)]
    simp only [spec_l6Shape.j2]
    iterate 4 rw [if_neg (by first | decide | omega)]
    rw [hb 55 (by decide) (by decide)]
    simp only [spec_l6Shape.j3]
    iterate 4 rw [if_neg (by first | decide | omega)]
    simp only [l1In_told, Option.bind_some]
    rw [decide_eq_false (by omega), decide_eq_false (by omega), decide_eq_false (by omega)]
    rfl
  · unfold impl_formOf.f
    iterate 2 rw [if_neg (by omega)]
    rw [hb 4 (by decide) (by decide)]
    simp only [impl_formOf.j0]
    iterate 8 rw [if_neg (by first | decide | omega)]
    rw [hb 36 (by decide) (by decide)]
    simp only [impl_formOf.j1]
    iterate 4 rw [if_neg (by first | decide | omega)]
    rw [hb 55 (by decide) (by decide)]
    simp only [impl_formOf.j2]
    iterate 17 rw [if_neg (by first | decide | omega)]
    rw [hb 180 (by decide) (by decide)]
    simp only [impl_formOf.j3]
    rw [if_neg (by decide)]
    rcases h with h | h
    · rw [if_neg (by omega), if_neg (by omega), if_neg (by omega)]
    · rw [if_pos (by omega), if_neg (by omega), if_pos (by omega), if_neg (by omega), if_pos (by omega), if_neg (by omega)]
theorem shape_near : ∀ v : Fin 181, spec_l6Shape.f 5 (v.val : Int) = some (shapeM (v.val : Int)) ∧ impl_formOf.f 5 (v.val : Int) = some (shapeM (v.val : Int) + 1) ∧ 0 ≤ shapeM (v.val : Int) + 1 ∧ shapeM (v.val : Int) ≤ 6 := by decide +kernel
theorem shape_told (op : Int) : Ev (fun k => spec_l6Shape.f k op) (shapeM op) ∧ Ev (fun k => impl_formOf.f k op) (shapeM op + 1) ∧ 0 ≤ shapeM op + 1 ∧ shapeM op ≤ 6 := by
  by_cases h : 0 ≤ op ∧ op ≤ 180
  · have := shape_near ⟨op.toNat, by omega⟩
    simp only [Int.toNat_of_nonneg h.1] at this
    obtain ⟨h1, h2, h3⟩ := this
    exact ⟨Ev.of (fun k => spec_l6Shape.mono op k) h1, Ev.of (fun k => impl_formOf.mono op k) h2, h3⟩
  · have e : shapeM op = -1 := by unfold shapeM; rw [if_neg h]
    rw [e]
    exact ⟨Pl.ev_const 5 fun k => (shape_far k op (by omega)).1, Pl.ev_const 5 fun k => (shape_far k op (by omega)).2, by decide, by decide⟩

/-! ### Good instructions -/
def goodI (op a : Int) : Bool :=
  if shapeM op = 0 then decide (a = 0) else if shapeM op = 1 then decide ((125 ≤ a ∧ a ≤ 127) ∨ a = 64) else if shapeM op = 2 then decide (0 ≤ a ∧ a ≤ 1000) else if shapeM op = 3 then decide (0 ≤ a ∧ a ≤ 10000)
  else if shapeM op = 4 then decide (-2147483648 ≤ a ∧ a ≤ 2147483647) else if shapeM op = 5 then true else if shapeM op = 6 then decide (0 ≤ a ∧ a ≤ 4294967295) else false
theorem beq_dec (a b : Int) : (a == b) = decide (a = b) := rfl
theorem goodI_spec (op a : Int) : Ev (fun k => spec_GoodIns.f k op a) (goodI op a) := by
  obtain ⟨h1, _, h3, h4⟩ := shape_told op
  unfold spec_GoodIns.f
  refine h1.bind ?_
  unfold goodI spec_l6Type.f
  simp only [l1In_told, Option.bind_some, beq_dec]
  generalize shapeM op = s at *
  obtain rfl | rfl | rfl | rfl | rfl | rfl | rfl | rfl : s = -1 ∨ s = 0 ∨ s = 1 ∨ s = 2 ∨ s = 3 ∨ s = 4 ∨ s = 5 ∨ s = 6 := by omega
  all_goals simp only [show ((-1 : Int) = 0) = False by decide, Int.reduceEq, if_true, if_false, eq_self, reduceIte]
  case inr.inr.inl =>
    by_cases h : 125 ≤ a ∧ a ≤ 127
    · simp only [decide_eq_true h, if_true, h, true_or, decide_true]; exact Ev.now true
    · simp only [decide_eq_false h, h, false_or, Bool.false_eq_true, if_false]; exact Ev.now _
  all_goals exact Ev.now _
theorem goodI_impl (op a : Int) : Ev (fun k => impl_GoodIns.f k op a) (goodI op a) := by
  obtain ⟨_, h1, h3, h4⟩ := shape_told op
  unfold impl_GoodIns.f
  refine h1.bind ?_
  unfold goodI impl_goodType.f
  simp only [beq_dec]
  generalize shapeM op = s at *
  obtain rfl | rfl | rfl | rfl | rfl | rfl | rfl | rfl : s = -1 ∨ s = 0 ∨ s = 1 ∨ s = 2 ∨ s = 3 ∨ s = 4 ∨ s = 5 ∨ s = 6 := by omega
  all_goals simp only [Int.reduceAdd, Int.reduceEq, if_true, if_false, eq_self, reduceIte]
  case inr.inr.inl =>
    by_cases h1 : a = 127
    · subst h1; exact Ev.now _
    · by_cases h2 : a = 126
      · subst h2; exact Ev.now _
      · by_cases h3 : a = 125
        · subst h3; exact Ev.now _
        · have e : decide ((125 ≤ a ∧ a ≤ 127) ∨ a = 64) = decide (a = 64) := by rw [decide_eq_decide]; omega
          rw [e]
          simp only [h1, h2, h3, if_false, Option.bind_some, decide_false, Bool.false_eq_true]
          exact Ev.now _
  case inr.inr.inr.inl =>
    by_cases h : a ≥ 0
    · simp only [if_pos h]; rw [show decide (0 ≤ a ∧ a ≤ 1000) = decide (a ≤ 1000) by rw [decide_eq_decide]; omega]; exact Ev.now _
    · simp only [if_neg h]; rw [decide_eq_false (by omega)]; exact Ev.now _
  case inr.inr.inr.inr.inl =>
    by_cases h : a ≥ 0
    · simp only [if_pos h]; rw [show decide (0 ≤ a ∧ a ≤ 10000) = decide (a ≤ 10000) by rw [decide_eq_decide]; omega]; exact Ev.now _
    · simp only [if_neg h]; rw [decide_eq_false (by omega)]; exact Ev.now _
  case inr.inr.inr.inr.inr.inl =>
    by_cases h : a ≥ -2147483648
    · simp only [if_pos h]; rw [show decide (-2147483648 ≤ a ∧ a ≤ 2147483647) = decide (a < 2147483648) by rw [decide_eq_decide]; omega]; exact Ev.now _
    · simp only [if_neg h]; rw [decide_eq_false (by omega)]; exact Ev.now _
  case inr.inr.inr.inr.inr.inr.inr =>
    by_cases h : a ≥ 0
    · simp only [if_pos h]; rw [show decide (0 ≤ a ∧ a ≤ 4294967295) = decide (a < 4294967296) by rw [decide_eq_decide]; omega]; exact Ev.now _
    · simp only [if_neg h]; rw [decide_eq_false (by omega)]; exact Ev.now _
  all_goals exact Ev.now _

/-- Good code. -/
def goodC (l : List (Int × Int)) : Bool := (l.all fun p => goodI p.1 p.2) && decide (l.length ≤ 200)
def mkS (p : Int × Int) : Pl6Good.S143 := ⟨p.1, p.2⟩
def mkI (p : Int × Int) : PgoodCode.S143 := ⟨p.1, p.2⟩
theorem rdS (l : List (Int × Int)) (i : Nat) (h : i < l.length) : Pl6Good.rd_T143 (l.map mkS) (i : Int) = mkS l[i] := by
  unfold Pl6Good.rd_T143
  simp [List.getD_eq_getElem?_getD, List.getElem?_eq_getElem h]
theorem rdI (l : List (Int × Int)) (i : Nat) (h : i < l.length) : PgoodCode.rd_T143 (l.map mkI) (i : Int) = mkI l[i] := by
  unfold PgoodCode.rd_T143
  simp [List.getD_eq_getElem?_getD, List.getElem?_eq_getElem h]
theorem goodC_spec (l : List (Int × Int)) (hl : l.length ≤ 1048576) : Ev (fun k => spec_l6Good.f k (l.map mkS)) (goodC l) := by
  have hm : (l.map mkS).length = l.length := List.length_map ..
  have key : ∀ (m i : Nat), i + m = l.length → Ev (fun k => spec_l6Good.l0 k (l.map mkS) (l.map mkS) (l.length : Int) (i : Int)) (((l.drop i).all fun p => goodI p.1 p.2) && decide (l.length ≤ 200)) := by
    intro m
    induction m with
    | zero =>
      intro i hi
      refine Pl.ev_const 1 fun k => ?_
      simp only [spec_l6Good.l0]
      rw [if_neg (by omega), List.drop_of_length_le (by omega), hm]
      simp
      omega
    | succ m ih =>
      intro i hi
      have hil : i < l.length := by omega
      have hn := ih (i + 1) (by omega)
      rw [List.drop_eq_getElem_cons hil, List.all_cons]
      have hg := goodI_spec l[i].1 l[i].2
      have step : Ev (fun k => (spec_GoodIns.f k l[i].1 l[i].2).bind fun t => if t = true then spec_l6Good.l0 k (l.map mkS) (l.map mkS) (l.length : Int) ((i + 1 : Nat) : Int) else some false) (goodI l[i].1 l[i].2 && ((l.drop (i + 1)).all fun p => goodI p.1 p.2) && decide (l.length ≤ 200)) := by
        refine hg.bind ?_
        cases h : goodI l[i].1 l[i].2 with
        | true => simp only [if_true, Bool.true_and]; exact hn
        | false => simp only [Bool.false_eq_true, if_false, Bool.false_and]; exact Ev.now _
      refine Pl.ev_skip 1 (fun k => ?_) step
      simp only [spec_l6Good.l0]
      rw [if_pos (by omega), if_pos (by omega), if_pos (by omega), rdS l i hil, Pl.w64s i l.length (by omega) (by omega)]
      rfl
  have := key l.length 0 (by omega)
  unfold spec_l6Good.f goodC
  rw [hm]
  simpa using this
theorem goodC_impl (l : List (Int × Int)) (hl : l.length ≤ 1048576) : Ev (fun k => impl_goodCode.f k (l.map mkI)) (goodC l) := by
  have hm : (l.map mkI).length = l.length := List.length_map ..
  have key : ∀ (m i : Nat), i + m = l.length → Ev (fun k => impl_goodCode.l0 k (l.map mkI) (l.length : Int) (i : Int)) ((l.drop i).all fun p => goodI p.1 p.2) := by
    intro m
    induction m with
    | zero =>
      intro i hi
      refine Pl.ev_const 1 fun k => ?_
      simp only [impl_goodCode.l0]
      rw [if_neg (by omega), List.drop_of_length_le (by omega)]
      simp
    | succ m ih =>
      intro i hi
      have hil : i < l.length := by omega
      have hn := ih (i + 1) (by omega)
      rw [List.drop_eq_getElem_cons hil, List.all_cons]
      have hg := goodI_impl l[i].1 l[i].2
      have step : Ev (fun k => (impl_GoodIns.f k l[i].1 l[i].2).bind fun t => if t = true then impl_goodCode.l0 k (l.map mkI) (l.length : Int) ((i + 1 : Nat) : Int) else some false) (goodI l[i].1 l[i].2 && ((l.drop (i + 1)).all fun p => goodI p.1 p.2)) := by
        refine hg.bind ?_
        cases h : goodI l[i].1 l[i].2 with
        | true => simp only [if_true, Bool.true_and]; exact hn
        | false => simp only [Bool.false_eq_true, if_false, Bool.false_and]; exact Ev.now _
      refine Pl.ev_skip 1 (fun k => ?_) step
      simp only [impl_goodCode.l0]
      rw [if_pos (by omega), if_pos (by omega), if_pos (by omega), rdI l i hil, Pl.w64s i l.length (by omega) (by omega)]
      rfl
  have := key l.length 0 (by omega)
  unfold impl_goodCode.f goodC
  rw [hm]
  by_cases h : (l.length : Int) > 200
  · simp only [if_pos h]
    rw [decide_eq_false (show ¬ l.length ≤ 200 by omega), Bool.and_false]
    exact Ev.now false
  · simp only [if_neg h]
    rw [decide_eq_true (show l.length ≤ 200 by omega), Bool.and_true]
    simpa using this
theorem good_s (A : Option Addr) (c : Nat) (l : List (Int × Int)) (w : World) (hr : Kd.C kI w A l.length l) (hc : l.length ≤ c) (hl : l.length ≤ 1048576) : Calls Try.prog 115 #[.slice A l.length c] w fun e w' => e = .returned (.bool (goodC l)) ∧ Below w.heap.size w w' := by
  obtain ⟨k, hk⟩ := (goodC_spec l hl).rounds
  have h1 : Kd.C Pl6Good.k143 w A (l.map mkS).length (l.map mkS) := by rw [List.length_map]; exact C_ofmap (fun _ => rfl) hr
  have := spec_l6Good.calls k A c (l.map mkS) _ w h1 (by rw [List.length_map]; exact hc) hk
  rwa [List.length_map] at this
theorem good_i (A : Option Addr) (c : Nat) (l : List (Int × Int)) (w : World) (hr : Kd.C kI w A l.length l) (hc : l.length ≤ c) (hl : l.length ≤ 1048576) : Calls Try.prog 103 #[.slice A l.length c] w fun e w' => e = .returned (.bool (goodC l)) ∧ Below w.heap.size w w' := by
  obtain ⟨k, hk⟩ := (goodC_impl l hl).rounds
  have h1 : Kd.C PgoodCode.k143 w A (l.map mkI).length (l.map mkI) := by rw [List.length_map]; exact C_ofmap (fun _ => rfl) hr
  have := impl_goodCode.calls k A c (l.map mkI) _ w h1 (by rw [List.length_map]; exact hc) hk
  rwa [List.length_map] at this
theorem shape_s (op : Int) (w : World) : Calls Try.prog 116 #[.int .i64 op] w fun e w' => e = .returned (.int .i64 (shapeM op)) ∧ ∃ n, w' = w.drewN n := by
  obtain ⟨k, hk⟩ := (shape_told op).1.rounds
  exact (spec_l6Shape.calls k op _ w hk).mono fun e w' h => ⟨h.1, h.2.out⟩
theorem form_i (op : Int) (w : World) : Calls Try.prog 104 #[.int .i64 op] w fun e w' => e = .returned (.int .i64 (shapeM op + 1)) ∧ ∃ n, w' = w.drewN n := by
  obtain ⟨k, hk⟩ := (shape_told op).2.1.rounds
  exact (impl_formOf.calls k op _ w hk).mono fun e w' h => ⟨h.1, h.2.out⟩
theorem goodC_len {l : List (Int × Int)} (h : goodC l = true) : l.length ≤ 200 := by
  unfold goodC at h
  rw [Bool.and_eq_true, decide_eq_true_eq] at h
  exact h.2
theorem goodC_at {l : List (Int × Int)} (h : goodC l = true) (i : Nat) (hi : i < l.length) : goodI l[i].1 l[i].2 = true := by
  unfold goodC at h
  rw [Bool.and_eq_true, List.all_eq_true] at h
  exact h.1 l[i] (List.getElem_mem hi)
theorem goodI_says {op a : Int} (h : goodI op a = true) : (shapeM op = 0) ∨ (shapeM op = 1 ∧ 0 ≤ a ∧ a < 256) ∨ (shapeM op = 2 ∧ 0 ≤ a ∧ a ≤ 10000) ∨ (shapeM op = 3 ∧ 0 ≤ a ∧ a ≤ 10000) ∨ shapeM op = 4 ∨ shapeM op = 5 ∨ (shapeM op = 6 ∧ 0 ≤ a ∧ a < 4294967296) := by
  unfold goodI at h
  split at h
  · exact .inl ‹_›
  · split at h
    · rw [decide_eq_true_eq] at h; right; left; exact ⟨‹_›, by omega, by omega⟩
    · split at h
      · rw [decide_eq_true_eq] at h; right; right; left; exact ⟨‹_›, by omega, by omega⟩
      · split at h
        · rw [decide_eq_true_eq] at h; right; right; right; left; exact ⟨‹_›, by omega, by omega⟩
        · split at h
          · right; right; right; right; left; assumption
          · split at h
            · right; right; right; right; right; left; assumption
            · split at h
              · rw [decide_eq_true_eq] at h; right; right; right; right; right; right; exact ⟨‹_›, by omega, by omega⟩
              · cases h
theorem shape_op {op a : Int} (h : goodI op a = true) : 0 ≤ op ∧ op ≤ 180 := by
  by_cases ho : 0 ≤ op ∧ op ≤ 180
  · exact ho
  · have e : shapeM op = -1 := by unfold shapeM; rw [if_neg ho]
    rcases goodI_says h with h | ⟨h, _⟩ | ⟨h, _⟩ | ⟨h, _⟩ | h | h | ⟨h, _⟩ <;> omega
end
end Go.Proofs.Ytfhnffondamhdaa.OwnCode
namespace Go.Proofs.Ytfhnffondamhdaa.OwnSt
open Go Go.RowKit Go.Proofs.YtfhnffondamhdaaW.PrintWords Go.Proofs.YtfhnffondamhdaaW.PrintLast Go.Proofs.YtfhnffondamhdaaW.PrintMore Go.Proofs.Ytfhnffondamhdaa.OwnBs Go.Proofs.Ytfhnffondamhdaa.OwnKp
set_option linter.unusedVariables false
set_option linter.unusedSimpArgs false
theorem info_int : (Try.prog.info? 3).map (fun i => (i.zero, i.size, i.bytes)) = some (some (.int .i64 0), 1, 8) := by kernel_rfl
theorem info_bool : (Try.prog.info? 4).map (fun i => (i.zero, i.size, i.bytes)) = some (some (.bool false), 1, 1) := by kernel_rfl
theorem info_ints : (Try.prog.info? 54).map (fun i => (i.zero, i.size, i.bytes)) = some (some (.slice none 0 0), 1, 24) := by kernel_rfl
abbrev dI : Kd Int := Kd.int .i64
abbrev dL : Kd (List Int) := Kd.slice 3 dI
theorem R_retag {α : Type} {d : Kd α} {e : Nat} {w : World} {B : Nat} {v : Value} {xs : List α} {tag tag' : Nat → Nat} {c : Nat} (h : d.R e w B (fun k => tag k = c) v xs) (ht : ∀ k, k < w.heap.size → tag' k = tag k) : d.R e w B (fun k => tag' k = c) v xs :=
  Kd.R_mono (Kd.R_bound h) (fun k hk => by rw [ht k hk.2.2.1]; exact hk.1)
theorem S_retag {α : Type} {d : Kd α} {e : Nat} {w : World} {B : Nat} {v : Value} {xs : List α} {tag tag' : Nat → Nat} {c : Nat} (h : Kd.S d e w B (fun k => tag k = c) v xs) (ht : ∀ k, k < w.heap.size → tag' k = tag k) : Kd.S d e w B (fun k => tag' k = c) v xs :=
  Kd.S_mono (Kd.S_bound h) (fun k hk => by rw [ht k hk.2.2.1]; exact hk.1)
/-- What is new belongs to c. -/
def ft (tag : Nat → Nat) (n c : Nat) : Nat → Nat := fun k => if k < n then tag k else c
theorem ft_old (tag : Nat → Nat) (n c : Nat) : ∀ k, k < n → ft tag n c k = tag k := fun k hk => if_pos hk
theorem ft_new (tag : Nat → Nat) (n c : Nat) : ∀ k, n ≤ k → ft tag n c k = c := fun k hk => if_neg (by omega)
/-- The four rows: out, open, elses, inside. -/
structure St (w0 w : World) (vo vp ve vi : Value) (out op : List Int) (els : List Bool) (ins : List (List Int)) : Prop where
  rows : ∃ tag : Nat → Nat, dI.R 3 w w0.heap.size (fun k => tag k = 0) vo out ∧ dI.R 3 w w0.heap.size (fun k => tag k = 1) vp op ∧ Kd.bool.R 4 w w0.heap.size (fun k => tag k = 2) ve els ∧ Kd.S dL 54 w w0.heap.size (fun k => tag k = 3) vi ins
  bel : Below w0.heap.size w0 w
section
variable {w0 w w1 : World} {vo vp ve vi : Value} {out op : List Int} {els : List Bool} {ins : List (List Int)}
theorem St.below (h : St w0 w vo vp ve vi out op els ins) (hb : Below w.heap.size w w1) : St w0 w1 vo vp ve vi out op els ins := by
  obtain ⟨⟨tag, h1, h2, h3, h4⟩, hB⟩ := h
  exact ⟨⟨tag, Kd.R_below h1 hb, Kd.R_below h2 hb, Kd.R_below h3 hb, Kd.S_below h4 hb⟩, below_step hB hb⟩
theorem St.alloc (h : St w0 w vo vp ve vi out op els ins) (o : Obj) : St w0 (w.alloc o) vo vp ve vi out op els ins := h.below (below_alloc (Below.refl _ _) o)
theorem St.forms (h : St w0 w vo vp ve vi out op els ins) (h1 : 0 < op.length) (h2 : 0 < els.length) (h3 : 0 < ins.length) : (∃ A c, vo = .slice A out.length c) ∧ (∃ g c, vp = .slice (some ⟨g, 0, none⟩) op.length c ∧ op.length ≤ c) ∧ (∃ g c, ve = .slice (some ⟨g, 0, none⟩) els.length c ∧ els.length ≤ c) ∧ (∃ g c, vi = .slice (some ⟨g, 0, none⟩) ins.length c ∧ ins.length ≤ c) := by
  obtain ⟨⟨tag, r1, r2, r3, r4⟩, hB⟩ := h
  refine ⟨Kd.R_slice r1, ?_, ?_, ?_⟩
  · obtain ⟨g, c, rfl, _⟩ := Kd.R_form r2 h1
    exact ⟨g, c, rfl, (Kd.R_reads' r2).2.1⟩
  · obtain ⟨g, c, rfl, _⟩ := Kd.R_form r3 h2
    exact ⟨g, c, rfl, (Kd.R_reads' r3).2.1⟩
  · obtain ⟨g, c, rfl, _⟩ := Kd.S_form r4 h3
    exact ⟨g, c, rfl, (Kd.S_reads' r4).2.1⟩
/-- A block of another type stays where a row is written. -/
theorem box_stays {W w1 : World} {v : Value} {e t g : Nat} {cs : Array Value} (hv : ∀ k, v.ownBlock = some k → ∃ cells, W.heap[k]? = some (.cells cells e (0, 0))) (hg : W.grownBy w1 v.ownBlock) (hne : e ≠ t) (hb : W.heap[g]? = some (.cells cs t (0, 0))) : w1.heap[g]? = some (.cells cs t (0, 0)) :=
  blk_grown hb hg (fun h => by
    obtain ⟨cells, hc⟩ := hv g h.symm
    rw [hc] at hb
    injection hb with hb
    injection hb with _ hb
    exact hne hb)
end
/-- Blocks of instructions stay. -/
def BoxKept (W w1 : World) : Prop := ∀ (g : Nat) (cs : Array Value), W.heap[g]? = some (Obj.cells cs 143 (0, 0)) → w1.heap[g]? = some (Obj.cells cs 143 (0, 0))
section
variable {ops : Array Oper} {rest : List Oper} {o : Oper} {a : Act} {Q : Exit → Act → World → Prop} {w0 W : World} {vo vp ve vi : Value} {out op : List Int} {els : List Bool} {ins : List (List Int)}
/-- open = append(open, i) -/
theorem St.app_open (h : St w0 W vo vp ve vi out op els ins) (i : Int) (hl : op.length ≤ 100000) (hgd : o.guard = none) (s x : Operand) (ho : o.op = .call { callee := .builtin .append, args := #[s, x], argTypes := #[54, 54] })
    (hs : a.eval s = vp) (b : Nat) (hx : a.eval x = .slice (some ⟨b, 0, none⟩) 1 1) (hb : b = W.heap.size)
    (K : ∀ v1 w1, St w0 w1 vo v1 ve vi out (op ++ [i]) els ins → BoxKept W w1 → wpList Try.prog ops Q rest (a.put o.dst v1) w1) : wpList Try.prog ops Q (o :: rest) a (W.alloc (.cells #[.int .i64 i] 3)) := by
  subst hb
  obtain ⟨⟨tag, r1, r2, r3, r4⟩, hB⟩ := h
  have fo := ft_old tag W.heap.size 1
  have r2' := R_retag r2 fo
  refine Kd.R_append dI (w0 := w0) w0.heap.size hgd s x 54 3 (.int .i64 0) 8 ho Try.underlying54 info_int rfl (by decide) (by decide) vp op i [.int .i64 i] (fun k => ft tag W.heap.size 1 k = 1) (fun _ => False) hs hx rfl (fun _ hk => hk.elim) (ft_new tag _ 1) r2' hB hB.size (by omega) ?_
  intro v1 w1 hR hb hg _
  have hne : ∀ c, c ≠ 1 → ∀ k, ft tag W.heap.size 1 k = c → some k ≠ vp.ownBlock := fun c hc k hk he => hc (hk ▸ (r2'.1 k he.symm))
  exact K v1 w1 ⟨⟨ft tag W.heap.size 1, Kd.R_grown (R_retag r1 fo) hg (hne 0 (by decide)), hR, Kd.R_grown (R_retag r3 fo) hg (hne 2 (by decide)), Kd.S_grown (S_retag r4 fo) hg (hne 3 (by decide))⟩, hb⟩ (fun g cs hc => box_stays (Kd.R_typed r2) hg (by decide) hc)
/-- elses = append(elses, x) -/
theorem St.app_els (h : St w0 W vo vp ve vi out op els ins) (i : Bool) (hl : els.length ≤ 100000) (hgd : o.guard = none) (s x : Operand) (ho : o.op = .call { callee := .builtin .append, args := #[s, x], argTypes := #[156, 156] })
    (hs : a.eval s = ve) (b : Nat) (hx : a.eval x = .slice (some ⟨b, 0, none⟩) 1 1) (hb : b = W.heap.size)
    (K : ∀ v1 w1, St w0 w1 vo vp v1 vi out op (els ++ [i]) ins → BoxKept W w1 → wpList Try.prog ops Q rest (a.put o.dst v1) w1) : wpList Try.prog ops Q (o :: rest) a (W.alloc (.cells #[.bool i] 4)) := by
  subst hb
  obtain ⟨⟨tag, r1, r2, r3, r4⟩, hB⟩ := h
  have fo := ft_old tag W.heap.size 2
  have r3' := R_retag r3 fo
  refine Kd.R_append Kd.bool (w0 := w0) w0.heap.size hgd s x 156 4 (.bool false) 1 ho Try.underlying156 info_bool rfl (by decide) (by decide) ve els i [.bool i] (fun k => ft tag W.heap.size 2 k = 2) (fun _ => False) hs hx rfl (fun _ hk => hk.elim) (ft_new tag _ 2) r3' hB hB.size (by omega) ?_
  intro v1 w1 hR hb hg _
  have hne : ∀ c, c ≠ 2 → ∀ k, ft tag W.heap.size 2 k = c → some k ≠ ve.ownBlock := fun c hc k hk he => hc (hk ▸ (r3'.1 k he.symm))
  exact K v1 w1 ⟨⟨ft tag W.heap.size 2, Kd.R_grown (R_retag r1 fo) hg (hne 0 (by decide)), Kd.R_grown (R_retag r2 fo) hg (hne 1 (by decide)), hR, Kd.S_grown (S_retag r4 fo) hg (hne 3 (by decide))⟩, hb⟩ (fun g cs hc => box_stays (Kd.R_typed r3) hg (by decide) hc)
/-- inside = append(inside, []int{i}) -/
theorem St.app_ins (h : St w0 W vo vp ve vi out op els ins) (i : Int) (hl : ins.length ≤ 100000) (hgd : o.guard = none) (s x : Operand) (ho : o.op = .call { callee := .builtin .append, args := #[s, x], argTypes := #[157, 157] })
    (hs : a.eval s = vi) (b b2 : Nat) (hx : a.eval x = .slice (some ⟨b, 0, none⟩) 1 1) (hb : b = W.heap.size + 1) (hb2 : b2 = W.heap.size)
    (K : ∀ v1 w1, St w0 w1 vo vp ve v1 out op els (ins ++ [[i]]) → BoxKept W w1 → wpList Try.prog ops Q rest (a.put o.dst v1) w1) : wpList Try.prog ops Q (o :: rest) a ((W.alloc (.cells #[.int .i64 i] 3)).alloc (.cells #[.slice (some ⟨b2, 0, none⟩) 1 1] 54)) := by
  subst hb2
  obtain ⟨⟨tag, r1, r2, r3, r4⟩, hB⟩ := h
  have fo := ft_old tag W.heap.size 3
  have hsz : (W.alloc (.cells #[.int .i64 i] 3)).heap.size = W.heap.size + 1 := by simp
  have r4' : Kd.S dL 54 (W.alloc (.cells #[.int .i64 i] 3)) w0.heap.size (fun k => ft tag W.heap.size 3 k = 3 ∧ ¬ k = W.heap.size) vi ins :=
    Kd.S_alloc (Kd.S_mono (Kd.S_bound (S_retag r4 fo)) (fun k hk => ⟨hk.1, by have := hk.2.2.1; omega⟩)) _
  have hp : dL.M (W.alloc (.cells #[.int .i64 i] 3)) w0.heap.size (fun k => k = W.heap.size) [i] [.slice (some ⟨W.heap.size, 0, none⟩) 1 1] := by
    refine ⟨_, rfl, Kd.R_of_own (enc := Value.int .i64) (h1 := fun _ => rfl) ?_ (fun k hk => ?_)⟩
    · exact own_lit W w0.heap.size 3 .i64 [i] hB.size (by simp)
    · simp [Value.ownBlock] at hk; exact hk.symm
  refine Kd.S_append dL (w0 := w0) w0.heap.size hgd s x 157 54 (.slice none 0 0) 24 ho Try.underlying157 info_ints rfl (by decide) (by decide) vi ins [i] [.slice (some ⟨W.heap.size, 0, none⟩) 1 1] (fun k => ft tag W.heap.size 3 k = 3) (fun k => k = W.heap.size) hs (by rw [hx, hb, hsz]) hp (fun k hk => ⟨by rw [hk]; exact ft_new tag _ 3 _ (Nat.le_refl _), fun he => by have := Kd.S_lt r4 k he.symm; omega⟩) (fun k hk => ft_new tag _ 3 k (by omega)) r4' (below_alloc hB _) (by rw [hsz]; exact Nat.le_succ_of_le hB.size) (by omega) ?_
  intro v1 w1 hR hb hg _
  have hne : ∀ c, c ≠ 3 → ∀ k, ft tag W.heap.size 3 k = c → some k ≠ vi.ownBlock := fun c hc k hk he => hc (hk ▸ ((Kd.S_R (S_retag r4 fo)).1 k he.symm))
  exact K v1 w1 ⟨⟨ft tag W.heap.size 3, Kd.R_grown (Kd.R_alloc (R_retag r1 fo) _) hg (hne 0 (by decide)), Kd.R_grown (Kd.R_alloc (R_retag r2 fo) _) hg (hne 1 (by decide)), Kd.R_grown (Kd.R_alloc (R_retag r3 fo) _) hg (hne 2 (by decide)), hR⟩, hb⟩ (fun g cs hc => box_stays (W := W.alloc (.cells #[.int .i64 i] 3)) (Kd.S_typed (Kd.S_alloc r4 _)) hg (by decide) (blk_alloc hc _))
/-- inside = append(inside, nil), inside nil: the first. -/
theorem St.app_nil (h : St w0 W vo vp ve (.slice none 0 0) out op els []) (hgd : o.guard = none) (s x : Operand) (ho : o.op = .call { callee := .builtin .append, args := #[s, x], argTypes := #[157, 157] })
    (hs : a.eval s = .slice none 0 0) (b : Nat) (hx : a.eval x = .slice (some ⟨b, 0, none⟩) 1 1) (hb : b = W.heap.size)
    (K : ∀ v1 w1, St w0 w1 vo vp ve v1 out op els [[]] → wpList Try.prog ops Q rest (a.put o.dst v1) w1) : wpList Try.prog ops Q (o :: rest) a (W.alloc (.cells #[.slice none 0 0] 54)) := by
  subst hb
  obtain ⟨⟨tag, r1, r2, r3, r4⟩, hB⟩ := h
  have fo := ft_old tag W.heap.size 3
  refine Kd.S_append dL (w0 := w0) w0.heap.size hgd s x 157 54 (.slice none 0 0) 24 ho Try.underlying157 info_ints rfl (by decide) (by decide) (.slice none 0 0) [] [] [.slice none 0 0] (fun k => ft tag W.heap.size 3 k = 3) (fun k => False) hs hx ⟨_, rfl, Kd.R_nil _ _ _ _ _⟩ (fun k hk => hk.elim) (fun k hk => ft_new tag _ 3 k hk) (Kd.S_nil _ _ _ _ _) hB hB.size (by simp) ?_
  intro v1 w1 hR hb hg _
  have hne : ∀ c, c ≠ 3 → ∀ k, ft tag W.heap.size 3 k = c → some k ≠ (Value.slice none 0 0).ownBlock := fun c hc k hk he => by simp [Value.ownBlock] at he
  exact K v1 w1 ⟨⟨ft tag W.heap.size 3, Kd.R_grown (R_retag r1 fo) hg (hne 0 (by decide)), Kd.R_grown (R_retag r2 fo) hg (hne 1 (by decide)), Kd.R_grown (R_retag r3 fo) hg (hne 2 (by decide)), hR⟩, hb⟩
end
section
variable {w0 w w1 : World} {vo vp ve vi : Value} {out op : List Int} {els : List Bool} {ins : List (List Int)} {g n c : Nat}
theorem St.op_form (h : St w0 w vo vp ve vi out op els ins) : ∃ A c, vp = .slice A op.length c := by
  obtain ⟨⟨tag, r1, r2, r3, r4⟩, hB⟩ := h
  exact Kd.R_slice r2
theorem St.els_cell (h : St w0 w vo vp (.slice (some ⟨g, 0, none⟩) n c) vi out op els ins) (i : Nat) (hi : i < els.length) : w.cell? ⟨g, i, none⟩ = some (.bool els[i]) ∧ w.frozen? ⟨g, i, none⟩ = false := by
  obtain ⟨⟨tag, r1, r2, r3, r4⟩, hB⟩ := h
  have hn := (Kd.R_reads' r3).1
  have := Kd.R_celln (enc := Value.bool) (h1 := fun _ => rfl) false r3 (i : Int) (by omega) (by omega)
  rw [Int.toNat_natCast] at this
  simpa [rdOf, List.getD_eq_getElem?_getD, List.getElem?_eq_getElem hi] using this
theorem St.set_els (h : St w0 w vo vp (.slice (some ⟨g, 0, none⟩) n c) vi out op els ins) (i : Nat) (x : Bool) : St w0 (w.setCell ⟨g, i, none⟩ (.bool x)) vo vp (.slice (some ⟨g, 0, none⟩) n c) vi out op (els.set i x) ins ∧ BoxKept w (w.setCell ⟨g, i, none⟩ (.bool x)) := by
  obtain ⟨⟨tag, r1, r2, r3, r4⟩, hB⟩ := h
  obtain ⟨hR, hg⟩ := Kd.R_putg (enc := Value.bool) (h1 := fun _ => rfl) r3 (i : Int) x
  rw [Int.toNat_natCast] at hR hg
  have hgo : (Value.slice (some ⟨g, 0, none⟩) n c).ownBlock = some g := by simp [Value.ownBlock]
  have h3 := r3.1 g hgo
  have hne : ∀ q, q ≠ 2 → ∀ k, tag k = q → some k ≠ some g := fun q hq k hk he => hq (by injection he with he; subst he; exact hk ▸ h3)
  exact ⟨⟨⟨tag, Kd.R_grown r1 hg (hne 0 (by decide)), Kd.R_grown r2 hg (hne 1 (by decide)), hR, Kd.S_grown r4 hg (hne 3 (by decide))⟩, below_set hB (Kd.R_base r3 g hgo)⟩, fun b cs hc => box_stays (v := .slice (some ⟨g, 0, none⟩) n c) (Kd.R_typed r3) (by rw [hgo]; exact hg) (by decide) hc⟩
theorem St.out_cell (h : St w0 w (.slice (some ⟨g, 0, none⟩) n c) vp ve vi out op els ins) (i : Nat) (hi : i < out.length) : w.cell? ⟨g, i, none⟩ = some (.int .i64 out[i]) ∧ w.frozen? ⟨g, i, none⟩ = false := by
  obtain ⟨⟨tag, r1, r2, r3, r4⟩, hB⟩ := h
  have hn := (Kd.R_reads' r1).1
  have := Kd.R_celln (enc := Value.int .i64) (h1 := fun _ => rfl) 0 r1 (i : Int) (by omega) (by omega)
  rw [Int.toNat_natCast] at this
  simpa [rdOf, List.getD_eq_getElem?_getD, List.getElem?_eq_getElem hi] using this
/-- A store into out: the other rows' cells stay. -/
theorem St.set_out (h : St w0 w (.slice (some ⟨g, 0, none⟩) n c) vp ve vi out op els ins) (i : Nat) (x : Int) : St w0 (w.setCell ⟨g, i, none⟩ (.int .i64 x)) (.slice (some ⟨g, 0, none⟩) n c) vp ve vi (out.set i x) op els ins ∧ BoxKept w (w.setCell ⟨g, i, none⟩ (.int .i64 x)) ∧ (∀ k, vi.ownBlock = some k → ∀ j, (w.setCell ⟨g, i, none⟩ (.int .i64 x)).cell? ⟨k, j, none⟩ = w.cell? ⟨k, j, none⟩) := by
  obtain ⟨⟨tag, r1, r2, r3, r4⟩, hB⟩ := h
  obtain ⟨hR, hg⟩ := Kd.R_putg (enc := Value.int .i64) (h1 := fun _ => rfl) r1 (i : Int) x
  rw [Int.toNat_natCast] at hR hg
  have hgo : (Value.slice (some ⟨g, 0, none⟩) n c).ownBlock = some g := by simp [Value.ownBlock]
  have h3 := r1.1 g hgo
  have hne : ∀ q, q ≠ 0 → ∀ k, tag k = q → some k ≠ some g := fun q hq k hk he => hq (by injection he with he; subst he; exact hk ▸ h3)
  exact ⟨⟨⟨tag, hR, Kd.R_grown r2 hg (hne 1 (by decide)), Kd.R_grown r3 hg (hne 2 (by decide)), Kd.S_grown r4 hg (hne 3 (by decide))⟩, below_set hB (Kd.R_base r1 g hgo)⟩, fun b cs hc => box_stays (v := .slice (some ⟨g, 0, none⟩) n c) (Kd.R_typed r1) (by rw [hgo]; exact hg) (by decide) hc, fun k hk j => World.cell?_of_block (hg.block k (Kd.S_lt r4 k hk) (hne 3 (by decide) k ((Kd.S_R r4).1 k hk)))⟩
/-- The value of an inner row. -/
theorem St.ins_cell (h : St w0 w vo vp ve (.slice (some ⟨g, 0, none⟩) n c) out op els ins) (i : Nat) (hi : i < ins.length) : ∃ A m, w.cell? ⟨g, i, none⟩ = some (.slice A ins[i].length m) ∧ w.frozen? ⟨g, i, none⟩ = false ∧ ReadsInt w .i64 A ins[i].length ins[i] := by
  obtain ⟨⟨tag, r1, r2, r3, r4⟩, hB⟩ := h
  have hn := (Kd.S_reads' r4).1
  obtain ⟨oki, cc, hcl, hM, hcc, hfr, hok, hH⟩ := Kd.S_elem r4 [] (i : Int) (by omega) (by omega)
  obtain ⟨u, rfl, hR⟩ := hM
  rw [Int.toNat_natCast] at hcc hfr hR
  have e : ins.getD i [] = ins[i] := by simp [List.getD_eq_getElem?_getD, List.getElem?_eq_getElem hi]
  rw [e] at hR
  obtain ⟨A, m, rfl, hm, hC⟩ := Kd.R_reads hR
  have h0 := hcc 0 _ rfl
  have f0 := hfr 0
  rw [show i * dL.sz + 0 = i from by show i * 1 + 0 = i; omega] at h0 f0
  exact ⟨A, m, h0, f0, Kd.reads_of_C (enc := Value.int .i64) (d := (0 : Int)) (h1 := fun _ => rfl) hC⟩
/-- The same, the cell being known: what is read. -/
theorem St.ins_reads (h : St w0 w vo vp ve (.slice (some ⟨g, 0, none⟩) n c) out op els ins) (i : Nat) (hi : i < ins.length) {A : Option Addr} {m l : Nat} (hc : w.cell? ⟨g, i, none⟩ = some (.slice A l m)) : ReadsInt w .i64 A ins[i].length ins[i] := by
  obtain ⟨A', m', h0, _, h2⟩ := h.ins_cell i hi
  rw [h0] at hc
  injection hc with hc
  injection hc with e1 e2 e3
  subst e1
  exact h2
theorem St.takes (h : St w0 w vo vp ve vi out op els ins) {Ap Ae Ai : Option Addr} {np ne ni cp ce ci m : Nat} (ep : vp = .slice Ap np cp) (ee : ve = .slice Ae ne ce) (ei : vi = .slice Ai ni ci) (h1 : m ≤ op.length) (h2 : m ≤ els.length) (h3 : m ≤ ins.length) : St w0 w vo (.slice Ap m cp) (.slice Ae m ce) (.slice Ai m ci) out (op.take m) (els.take m) (ins.take m) := by
  subst ep; subst ee; subst ei
  obtain ⟨⟨tag, r1, r2, r3, r4⟩, hB⟩ := h
  exact ⟨⟨tag, r1, Kd.R_take r2 h1, Kd.R_take r3 h2, Kd.S_take r4 h3⟩, hB⟩
/-- The rows while an inner one is between two stores. -/
structure Hole (w0 w : World) (vo vp ve : Value) (g n c : Nat) (out op : List Int) (els : List Bool) (ins : List (List Int)) (i : Nat) (u : Value) (row : List Int) : Prop where
  rows : ∃ tag : Nat → Nat, dI.R 3 w w0.heap.size (fun k => tag k = 0) vo out ∧ dI.R 3 w w0.heap.size (fun k => tag k = 1) vp op ∧ Kd.bool.R 4 w w0.heap.size (fun k => tag k = 2) ve els ∧ ∃ oki cc, cc.length = 1 ∧ dI.R 3 w w0.heap.size oki u row ∧ Kd.H dL 54 w w0.heap.size (fun k => tag k = 3) (.slice (some ⟨g, 0, none⟩) n c) ins (i : Int) oki cc
  bel : Below w0.heap.size w0 w
end
section
variable {ops : Array Oper} {rest : List Oper} {o : Oper} {a : Act} {Q : Exit → Act → World → Prop} {w0 W : World} {vo vp ve vi : Value} {out op : List Int} {els : List Bool} {ins : List (List Int)} {g n c : Nat}
/-- append(inside[i], x) -/
theorem St.app_top (h : St w0 W vo vp ve (.slice (some ⟨g, 0, none⟩) n c) out op els ins) (i : Nat) (hi : i < ins.length) (x : Int) (hl : ins[i].length ≤ 100000) (u : Value) (hu : W.cell? ⟨g, i, none⟩ = some u) (hgd : o.guard = none) (s y : Operand) (ho : o.op = .call { callee := .builtin .append, args := #[s, y], argTypes := #[54, 54] })
    (hs : a.eval s = u) (b : Nat) (hy : a.eval y = .slice (some ⟨b, 0, none⟩) 1 1) (hb : b = W.heap.size)
    (K : ∀ v1 w1, Hole w0 w1 vo vp ve g n c out op els ins i v1 (ins[i] ++ [x]) → BoxKept W w1 → wpList Try.prog ops Q rest (a.put o.dst v1) w1) : wpList Try.prog ops Q (o :: rest) a (W.alloc (.cells #[.int .i64 x] 3)) := by
  subst hb
  obtain ⟨⟨tag, r1, r2, r3, r4⟩, hB⟩ := h
  have fo := ft_old tag W.heap.size 3
  have hn := (Kd.S_reads' r4).1
  obtain ⟨oki, cc, hcl, hM, hcc, hfr, hok, hH⟩ := Kd.S_elem (S_retag r4 fo) [] (i : Int) (by omega) (by omega)
  obtain ⟨u', rfl, hR⟩ := hM
  rw [Int.toNat_natCast] at hcc hR
  have e : ins.getD i [] = ins[i] := by simp [List.getD_eq_getElem?_getD, List.getElem?_eq_getElem hi]
  rw [e] at hR
  have h0 := hcc 0 _ rfl
  rw [show i * dL.sz + 0 = i from by show i * 1 + 0 = i; omega, hu] at h0
  injection h0 with h0
  subst h0
  have hW := Kd.H_widen hH
  have hR' : dI.R 3 W w0.heap.size (fun k => oki k ∨ ft tag W.heap.size 3 k = 3 ∧ W.heap.size ≤ k) u ins[i] := Kd.R_mono hR (fun k hk => .inl hk)
  refine Kd.R_append dI (w0 := w0) w0.heap.size hgd s y 54 3 (.int .i64 0) 8 ho Try.underlying54 info_int rfl (by decide) (by decide) u ins[i] x [.int .i64 x] (fun k => oki k ∨ ft tag W.heap.size 3 k = 3 ∧ W.heap.size ≤ k) (fun _ => False) hs hy rfl (fun _ hk => hk.elim) (fun k hk => .inr ⟨ft_new tag _ 3 k hk, hk⟩) hR' hB hB.size (by omega) ?_
  intro v1 w1 hR1 hb1 hg _
  have h3 : ∀ k, u.ownBlock = some k → ft tag W.heap.size 3 k = 3 := fun k hk => by
    rcases hR'.1 k hk with h | h
    · exact (hok k h).1
    · exact h.1
  have hne : ∀ q, q ≠ 3 → ∀ k, ft tag W.heap.size 3 k = q → some k ≠ u.ownBlock := fun q hq k hk he => hq (hk ▸ h3 k he.symm)
  exact K v1 w1 ⟨⟨ft tag W.heap.size 3, Kd.R_grown (R_retag r1 fo) hg (hne 0 (by decide)), Kd.R_grown (R_retag r2 fo) hg (hne 1 (by decide)), Kd.R_grown (R_retag r3 fo) hg (hne 2 (by decide)), _, _, rfl, hR1, Kd.H_grown hW hg (fun k hk => hR'.1 k hk)⟩, hb1⟩ (fun b cs hc => box_stays (Kd.R_typed hR) hg (by decide) hc)
/-- inside[i] = (what was appended to) -/
theorem Hole.store {u : Value} {row : List Int} {i : Nat} (h : Hole w0 W vo vp ve g n c out op els ins i u row) (hi : i < n) (hN : o.dst = none) (hgd : o.guard = none) (p x : Operand) (ho : o.op = .store 54 p x)
    (haddr : a.eval p = .pointer (some ⟨g, i, none⟩)) (hx : a.eval x = u)
    (K : ∀ w1, St w0 w1 vo vp ve (.slice (some ⟨g, 0, none⟩) n c) out op els (ins.set i row) → BoxKept W w1 → wpList Try.prog ops Q rest a w1) : wpList Try.prog ops Q (o :: rest) a W := by
  obtain ⟨⟨tag, r1, r2, r3, oki, cc, hcl, hR, hH⟩, hB⟩ := h
  have hc1 : cc.take 0 ++ [u] ++ cc.drop (0 + 1) = [u] := by rw [List.drop_of_length_le (by omega)]; simp
  have hok : ∀ k, oki k → tag k = 3 := hH.1
  refine Kd.H_store dL (w0 := w0) w0.heap.size hN hgd 54 p x ho 54 (i : Int) 0 ins row u [u] cc (fun k => tag k = 3) oki oki haddr (by show i = i * 1 + 0; omega) hx (Kd.R_val hR).1 (by kernel_rfl) (by intro q hq; rw [List.mem_singleton.1 hq]; exact (Kd.R_val hR).2) hH (by omega) (by omega) (Nat.le_refl 1) (by rw [show cc.take 0 ++ [u] ++ cc.drop (0 + [u].length) = [u] from hc1]; exact ⟨u, rfl, hR⟩) (fun _ hk => hk) hB ?_
  intro w1 hS hb hg
  rw [Int.toNat_natCast] at hS
  have h3 : tag g = 3 := by
    obtain ⟨_, f, hF⟩ := hH
    exact (hF.1 g (by simp [Value.ownBlock])).1
  have hgt : ∃ cells, W.heap[g]? = some (Obj.cells cells 54 (0, 0)) := by
    obtain ⟨_, f, hF⟩ := hH
    exact Kd.R_typed hF g (by simp [Value.ownBlock])
  have hne : ∀ q, q ≠ 3 → ∀ k, tag k = q → some k ≠ some g := fun q hq k hk he => hq (by injection he with he; subst he; exact hk ▸ h3)
  exact K w1 ⟨⟨tag, Kd.R_grown r1 hg (hne 0 (by decide)), Kd.R_grown r2 hg (hne 1 (by decide)), Kd.R_grown r3 hg (hne 2 (by decide)), hS⟩, hb⟩ (fun b cs hc => blk_grown hc hg (fun he => by
    injection he with he
    subst he
    obtain ⟨cells, hcc⟩ := hgt
    rw [hc] at hcc
    injection hcc with hcc
    injection hcc with _ hcc
    exact absurd hcc (by decide)))
end
theorem St.init {w0 X : World} (hB : Below w0.heap.size w0 X) (n : Nat) (hn : n ≤ 1048576) (x : Int) (y : Bool) : St w0 (((X.alloc (.cells (madeCells #[.int .i64 0] n) 3)).alloc (.cells #[.int .i64 x] 3)).alloc (.cells #[.bool y] 4)) (.slice (some ⟨X.heap.size, 0, none⟩) n n) (.slice (some ⟨X.heap.size + 1, 0, none⟩) 1 1) (.slice (some ⟨X.heap.size + 1 + 1, 0, none⟩) 1 1) (.slice none 0 0) (List.replicate n 0) [x] [y] [] := by
  have s1 : (X.alloc (.cells (madeCells #[.int .i64 0] n) 3)).heap.size = X.heap.size + 1 := by simp
  have s2 : ((X.alloc (.cells (madeCells #[.int .i64 0] n) 3)).alloc (.cells #[.int .i64 x] 3)).heap.size = X.heap.size + 1 + 1 := by simp
  have hb := hB.size
  refine ⟨⟨fun k => if k = X.heap.size then 0 else if k = X.heap.size + 1 then 1 else 2, ?_, ?_, ?_, Kd.S_nil _ _ _ _ _⟩, below_alloc (below_alloc (below_alloc hB _) _) _⟩
  · refine Kd.R_alloc (Kd.R_alloc (Kd.R_of_own (enc := Value.int .i64) (h1 := fun _ => rfl) ?_ (fun k hk => ?_)) _) _
    · have := own_made X w0.heap.size 3 .i64 n hb (by omega)
      rw [List.length_replicate]
      exact this
    · simp [Value.ownBlock] at hk; subst hk; exact if_pos rfl
  · refine Kd.R_alloc (Kd.R_of_own (enc := Value.int .i64) (h1 := fun _ => rfl) ?_ (fun k hk => ?_)) _
    · have := own_lit (X.alloc (.cells (madeCells #[.int .i64 0] n) 3)) w0.heap.size 3 .i64 [x] (by omega) (by simp)
      rw [s1] at this
      exact this
    · simp [Value.ownBlock] at hk; subst hk; show (if _ then _ else _) = _; rw [if_neg (by omega), if_pos rfl]
  · refine Kd.R_of_own (enc := Value.bool) (h1 := fun _ => rfl) ?_ (fun k hk => ?_)
    · have := own_lit_of (enc := Value.bool) ((X.alloc (.cells (madeCells #[.int .i64 0] n) 3)).alloc (.cells #[.int .i64 x] 3)) w0.heap.size 4 [y] (by omega) (by simp)
      rw [s2] at this
      exact this
    · simp [Value.ownBlock] at hk; subst hk; show (if _ then _ else _) = _; rw [if_neg (by omega), if_neg (by omega)]
section
variable {w0 w w1 : World} {vo vp ve vi : Value} {out op : List Int} {els : List Bool} {ins : List (List Int)} {g n c : Nat}
theorem St.op_pos (h : St w0 w vo vp ve vi out op els ins) (hp : 0 < op.length) : ∃ g c, vp = .slice (some ⟨g, 0, none⟩) op.length c ∧ op.length ≤ c := by
  obtain ⟨⟨tag, r1, r2, r3, r4⟩, hB⟩ := h
  obtain ⟨g, c, rfl, _⟩ := Kd.R_form r2 hp
  exact ⟨g, c, rfl, (Kd.R_reads' r2).2.1⟩
theorem St.op_cell (h : St w0 w vo (.slice (some ⟨g, 0, none⟩) n c) ve vi out op els ins) (i : Nat) (hi : i < op.length) : w.cell? ⟨g, i, none⟩ = some (.int .i64 op[i]) ∧ w.frozen? ⟨g, i, none⟩ = false := by
  obtain ⟨⟨tag, r1, r2, r3, r4⟩, hB⟩ := h
  have hn := (Kd.R_reads' r2).1
  have := Kd.R_celln (enc := Value.int .i64) (h1 := fun _ => rfl) 0 r2 (i : Int) (by omega) (by omega)
  rw [Int.toNat_natCast] at this
  simpa [rdOf, List.getD_eq_getElem?_getD, List.getElem?_eq_getElem hi] using this
theorem St.set_op (h : St w0 w vo (.slice (some ⟨g, 0, none⟩) n c) ve vi out op els ins) (i : Nat) (x : Int) : St w0 (w.setCell ⟨g, i, none⟩ (.int .i64 x)) vo (.slice (some ⟨g, 0, none⟩) n c) ve vi out (op.set i x) els ins := by
  obtain ⟨⟨tag, r1, r2, r3, r4⟩, hB⟩ := h
  obtain ⟨hR, hg⟩ := Kd.R_putg (enc := Value.int .i64) (h1 := fun _ => rfl) r2 (i : Int) x
  rw [Int.toNat_natCast] at hR hg
  have hgo : (Value.slice (some ⟨g, 0, none⟩) n c).ownBlock = some g := by simp [Value.ownBlock]
  have h3 := r2.1 g hgo
  have hne : ∀ q, q ≠ 1 → ∀ k, tag k = q → some k ≠ some g := fun q hq k hk he => hq (by injection he with he; subst he; exact hk ▸ h3)
  exact ⟨⟨tag, Kd.R_grown r1 hg (hne 0 (by decide)), hR, Kd.R_grown r3 hg (hne 2 (by decide)), Kd.S_grown r4 hg (hne 3 (by decide))⟩, below_set hB (Kd.R_base r2 g hgo)⟩
theorem St.take_op {A : Option Addr} {m : Nat} (h : St w0 w vo (.slice A n c) ve vi out op els ins) (hm : m ≤ op.length) : St w0 w vo (.slice A m c) ve vi out (op.take m) els ins := by
  obtain ⟨⟨tag, r1, r2, r3, r4⟩, hB⟩ := h
  exact ⟨⟨tag, r1, Kd.R_take r2 hm, r3, r4⟩, hB⟩
/-- One row alone. -/
theorem St.init1 {w0 X : World} (hB : Below w0.heap.size w0 X) (x : Int) : St w0 (X.alloc (.cells #[.int .i64 x] 3)) (.slice none 0 0) (.slice (some ⟨X.heap.size, 0, none⟩) 1 1) (.slice none 0 0) (.slice none 0 0) [] [x] [] [] := by
  refine ⟨⟨fun _ => 1, Kd.R_nil _ _ _ _ _, ?_, Kd.R_nil _ _ _ _ _, Kd.S_nil _ _ _ _ _⟩, below_alloc hB _⟩
  exact Kd.R_of_own (enc := Value.int .i64) (h1 := fun _ => rfl) (own_lit X w0.heap.size 3 .i64 [x] hB.size (by simp)) (fun k hk => rfl)
/-- A row made and an empty one. -/
theorem St.init2 {w0 X : World} (hB : Below w0.heap.size w0 X) (n : Nat) (hn : n ≤ 1048576) : St w0 ((X.alloc (.cells (madeCells #[.int .i64 0] n) 3)).alloc (.cells #[] 3)) (.slice (some ⟨X.heap.size, 0, none⟩) n n) (.slice (some ⟨X.heap.size + 1, 0, none⟩) 0 0) (.slice none 0 0) (.slice none 0 0) (List.replicate n 0) [] [] [] := by
  have s1 : (X.alloc (.cells (madeCells #[.int .i64 0] n) 3)).heap.size = X.heap.size + 1 := by simp
  have hb := hB.size
  refine ⟨⟨fun k => if k = X.heap.size then 0 else 1, ?_, ?_, Kd.R_nil _ _ _ _ _, Kd.S_nil _ _ _ _ _⟩, below_alloc (below_alloc hB _) _⟩
  · refine Kd.R_alloc (Kd.R_of_own (enc := Value.int .i64) (h1 := fun _ => rfl) ?_ (fun k hk => ?_)) _
    · have := own_made X w0.heap.size 3 .i64 n hb (by omega)
      rw [List.length_replicate]
      exact this
    · simp [Value.ownBlock] at hk; subst hk; exact if_pos rfl
  · refine Kd.R_of_own (enc := Value.int .i64) (h1 := fun _ => rfl) ?_ (fun k hk => ?_)
    · have := own_lit (X.alloc (.cells (madeCells #[.int .i64 0] n) 3)) w0.heap.size 3 .i64 [] (by omega) (by simp)
      rw [s1] at this
      exact this
    · simp [Value.ownBlock] at hk; subst hk; show (if _ then _ else _) = _; rw [if_neg (by omega)]
end
end Go.Proofs.Ytfhnffondamhdaa.OwnSt
namespace Go.Proofs.Ytfhnffondamhdaa.OwnEndsS
open Go Go.RowKit Go.Proofs.YtfhnffondamhdaaW.PrintWords Go.Proofs.YtfhnffondamhdaaW.PrintLast Go.Proofs.YtfhnffondamhdaaW.PrintMore Go.Proofs.Ytfhnffondamhdaa.OwnBs Go.Proofs.Ytfhnffondamhdaa.OwnKp Go.Proofs.Ytfhnffondamhdaa.OwnCode Go.Proofs.Ytfhnffondamhdaa.OwnSt
set_option linter.unusedVariables false
set_option linter.unusedSimpArgs false
/-- What the reference's walk over a body holds. -/
structure EndSt where
  out : List Int
  op : List Int
  els : List Bool
  ins : List (List Int)
  deep : Nat
/-- The ends of these are i. -/
def setAll (out : List Int) (ks : List Int) (i : Int) : List Int := ks.foldl (fun o k => o.set k.toNat i) out
def stepE (i : Nat) (x : Int) (s : EndSt) : Option EndSt :=
  if s.op.length = 0 then none
  else if x = 2 ∨ x = 3 ∨ x = 4 then some ⟨s.out, s.op ++ [(i : Int)], s.els ++ [x != 4], s.ins ++ [[(i : Int)]], if s.deep < s.op.length + 1 then s.op.length + 1 else s.deep⟩
  else if x = 5 ∧ s.els.getD (s.op.length - 1) false = true then none
  else
    let row := s.ins.getD (s.op.length - 1) [] ++ [(i : Int)]
    let ins := s.ins.set (s.op.length - 1) row
    let els := if x = 5 then s.els.set (s.op.length - 1) true else s.els
    if x = 11 then some ⟨setAll s.out row i, s.op.take (s.op.length - 1), els.take (s.op.length - 1), ins.take (s.op.length - 1), s.deep⟩
    else some ⟨s.out, s.op, els, ins, s.deep⟩
def runE : List (Int × Int) → Nat → EndSt → Option EndSt
  | [], _, s => some s
  | x :: xs, i, s => (stepE i x.1 s).bind (runE xs (i + 1))
def iniE (L : Nat) : EndSt := ⟨List.replicate L 0, [-1], [true], [[]], 1⟩
/-- What the reference tells of a body. -/
def resE : Option EndSt → List Int × Nat × Bool
  | none => ([], 0, false)
  | some s => (s.out, s.deep, s.op.length == 0)
def endsM (l : List (Int × Int)) : List Int × Nat × Bool :=
  if goodC l = true ∧ l ≠ [] then resE (runE l 0 (iniE l.length)) else ([], 0, false)
/-- What holds ahead of place i. -/
structure InvE (L i : Nat) (s : EndSt) : Prop where
  e1 : s.els.length = s.op.length
  e2 : s.ins.length = s.op.length
  e3 : s.op.length ≤ i + 1
  e4 : s.deep ≤ i + 1
  e5 : s.out.length = L
  e6 : ∀ r ∈ s.ins, r.length ≤ i ∧ ∀ k ∈ r, 0 ≤ k ∧ k < (i : Int)
theorem inv_ini (L : Nat) : InvE L 0 (iniE L) := ⟨rfl, rfl, by simp [iniE], by simp [iniE], by simp [iniE], by simp [iniE]⟩
theorem setAll_len (ks : List Int) : ∀ (out : List Int) (i : Int), (setAll out ks i).length = out.length := by
  induction ks with
  | nil => intro out i; rfl
  | cons k ks ih => intro out i; show (setAll (out.set k.toNat i) ks i).length = _; rw [ih, List.length_set]
theorem inv_step {L i : Nat} {x : Int} {s s' : EndSt} (h : InvE L i s) (hs : stepE i x s = some s') : InvE L (i + 1) s' := by
  obtain ⟨e1, e2, e3, e4, e5, e6⟩ := h
  unfold stepE at hs
  by_cases c0 : s.op.length = 0
  · rw [if_pos c0] at hs; cases hs
  · rw [if_neg c0] at hs
    by_cases c1 : x = 2 ∨ x = 3 ∨ x = 4
    · rw [if_pos c1] at hs
      injection hs with hs
      subst hs
      refine ⟨by simp [e1], by simp [e2], by simp; omega, by simp only; split <;> omega, e5, fun r hr => ?_⟩
      simp only [List.mem_append, List.mem_singleton] at hr
      rcases hr with hr | rfl
      · have := e6 r hr
        exact ⟨by omega, fun k hk => by have := this.2 k hk; omega⟩
      · exact ⟨by simp, fun k hk => by simp at hk; omega⟩
    · rw [if_neg c1] at hs
      by_cases c2 : x = 5 ∧ s.els.getD (s.op.length - 1) false = true
      · rw [if_pos c2] at hs; cases hs
      · rw [if_neg c2] at hs
        have hrow : ∀ r ∈ s.ins.set (s.op.length - 1) (s.ins.getD (s.op.length - 1) [] ++ [(i : Int)]), r.length ≤ i + 1 ∧ ∀ k ∈ r, 0 ≤ k ∧ k < ((i + 1 : Nat) : Int) := by
          intro r hr
          rcases List.mem_or_eq_of_mem_set hr with hr | rfl
          · have := e6 r hr
            exact ⟨by omega, fun k hk => by have := this.2 k hk; omega⟩
          · have hm : s.ins.getD (s.op.length - 1) [] ∈ s.ins := by
              rw [List.getD_eq_getElem?_getD, List.getElem?_eq_getElem (by omega)]
              exact List.getElem_mem _
            have := e6 _ hm
            refine ⟨by rw [List.length_append, List.length_singleton]; omega, fun k hk => ?_⟩
            simp only [List.mem_append, List.mem_singleton] at hk
            rcases hk with hk | rfl
            · have := this.2 k hk; omega
            · omega
        have hels : (if x = 5 then s.els.set (s.op.length - 1) true else s.els).length = s.op.length := by split <;> simp [e1]
        by_cases c3 : x = 11
        · simp only [if_pos c3] at hs
          injection hs with hs
          subst hs
          refine ⟨?_, ?_, ?_, by simp only; omega, ?_, fun r hr => hrow r (List.mem_of_mem_take hr)⟩
          · show (List.take _ _).length = (List.take _ _).length
            rw [List.length_take, List.length_take, hels]
          · show (List.take _ _).length = (List.take _ _).length
            rw [List.length_take, List.length_take, List.length_set, e2]
          · show (List.take _ _).length ≤ _
            rw [List.length_take]; omega
          · show (setAll _ _ _).length = _
            rw [setAll_len, e5]
        · simp only [if_neg c3] at hs
          injection hs with hs
          subst hs
          exact ⟨hels, by simp [e2], by simp only; omega, by simp only; omega, e5, hrow⟩
def EndsPost (w : World) (r : List Int × Nat × Bool) (e : Ending) (w' : World) : Prop := ∃ v, e = .returned (.tuple #[v, .int .i64 r.2.1, .bool r.2.2]) ∧ dI.R 3 w' w.heap.size (fun _ => True) v r.1 ∧ Below w.heap.size w w'
set_option maxRecDepth 100000 in
set_option maxHeartbeats 4000000 in
theorem ends_no (A : Option Addr) (c : Nat) (l : List (Int × Int)) (w : World) (hr : Kd.C kI w A l.length l) (hc : l.length ≤ c) (hl : l.length ≤ 1048576) (g : goodC l = false ∨ l = []) : Calls Try.prog 96 #[.slice A l.length c] w (EndsPost w ([], 0, false)) := by
  have cg := fun w hr => good_s A c l w hr hc hl
  have HR := Aside0.mk hr
  clear hr
  rcases g with g | rfl
  · rw [g] at cg
    clear g
    go_enter Try.func96, Try.ntmps96
    go_wp2_with fail
    refine (cg _ HR.out).mono ?_
    rintro e w1 ⟨rfl, B1⟩
    go_wp2_with fail
    go_ret3
    exact ⟨_, rfl, Kd.R_nil _ _ _ _ _, B1⟩
  · have e : goodC [] = true := rfl
    rw [e] at cg
    clear e
    go_enter Try.func96, Try.ntmps96
    go_wp2_with fail
    refine (cg _ HR.out).mono ?_
    rintro e w1 ⟨rfl, B1⟩
    go_wp2_with fail
    go_ret3
    exact ⟨_, rfl, Kd.R_nil _ _ _ _ _, B1⟩
set_option maxRecDepth 100000 in
set_option maxHeartbeats 40000000 in
theorem ends_yes (A : Option Addr) (c : Nat) (l : List (Int × Int)) (w : World) (hr : Kd.C kI w A l.length l) (hc : l.length ≤ c) (g : goodC l = true) (g0 : l ≠ []) (R : Option EndSt) (hRun : runE l 0 (iniE l.length) = R) (res : List Int × Nat × Bool) (hres : res = resE R) : Calls Try.prog 96 #[.slice A l.length c] w (EndsPost w res) := by
  have hl2 := goodC_len g
  have cg := fun w hr => good_s A c l w hr hc (by omega)
  have HR := Aside0.mk hr
  have hl0 : 0 < l.length := List.length_pos_iff.2 g0
  have HRun := Aside0.mk hRun
  have HRes := Aside0.mk hres
  rw [g] at cg
  clear hr g g0 hRun hres
  have hlb : ((l.length : Int) == 0) = false := beq_eq_false_iff_ne.2 (by omega)
  have hmk := print_make (P := Try.prog) 54 3 .i64 8 Try.underlying54 info_int (by decide) l.length (by omega)
  go_enter Try.func96, Try.ntmps96
  go_wp2_with fail
  refine (cg _ HR.out).mono ?_
  rintro e w1 ⟨rfl, B1⟩
  clear cg
  have S0 := St.init B1 l.length (by omega) (-1) true
  go_wp2_with (at_builtin; refine S0.app_nil rfl _ _ rfl rfl _ rfl (by simp) ?_; intro v9 w2 S1)
  clear hmk hlb
  generalize w1.heap.size = b0 at *
  go_loopg [6, 7, 8, 9, 33] l.length (fun kq v6 v7 v8 v9 v33 w' => ∃ (i : Nat) (s : EndSt), i + kq = l.length ∧ v6 = .int .i64 s.deep ∧ v33 = .int .i64 i ∧ St w w' (.slice (some ⟨b0, 0, none⟩) l.length l.length) v7 v8 v9 s.out s.op s.els s.ins ∧ Aside0 (InvE l.length i s) ∧ Aside0 (runE (l.drop i) i s = R))
  case atStart => exact ⟨0, iniE l.length, by omega, rfl, rfl, S1, ⟨inv_ini _⟩, ⟨HRun.out⟩⟩
  case round =>
    clear S0 S1 B1 HRun
    obtain ⟨i, s, hi, rfl, rfl, HS, HI, HQ⟩ := hrel
    cases gk with
    | zero =>
      obtain rfl : i = l.length := by omega
      have hq := HQ.out
      rw [List.drop_length] at hq
      have hre := HRes.out
      rw [← hq] at hre
      subst hre
      have hd : decide ((l.length : Int) < (l.length : Int)) = false := decide_eq_false (by omega)
      obtain ⟨⟨tag, r1, r2, r3, r4⟩, hB⟩ := HS
      obtain ⟨A7, c7, rfl⟩ := Kd.R_slice r2
      have he : (((s.op.length : Nat) : Int) == 0) = (s.op.length == 0) := by
        rw [Bool.eq_iff_iff, beq_iff_eq, beq_iff_eq]; omega
      go_wp2
      go_ret3
      refine ⟨_, ?_, Kd.R_mono r1 (fun _ _ => trivial), hB⟩
      show _ = Ending.returned (.tuple #[_, .int .i64 s.deep, .bool (s.op.length == 0)])
      rw [← he]
      rfl
    | succ k1 =>
      have hil : i < l.length := by omega
      have hd : decide ((i : Int) < (l.length : Int)) = true := decide_eq_true (by omega)
      obtain ⟨ad, e, hx0, hx1⟩ := at_ins HR.out i hil
      subst e
      replace hx0 := (HS.bel.cell (World.block_lt_of_cell? w _ hx0)).trans hx0
      replace hx1 := (HS.bel.cell (World.block_lt_of_cell? w _ hx1)).trans hx1
      have HQ2 : Aside0 ((stepE i l[i].1 s).bind (runE (l.drop (i + 1)) (i + 1)) = R) := ⟨by have := HQ.out; rwa [List.drop_eq_getElem_cons hil] at this⟩
      have HV : Aside0 (∀ s', stepE i l[i].1 s = some s' → InvE l.length (i + 1) s') := ⟨fun s' hs => inv_step HI.out hs⟩
      clear HQ
      generalize l[i].1 = x at *
      generalize l[i].2 = y at *
      obtain ⟨out, op, els, ins, deep⟩ := s
      obtain ⟨e1, e2, e3, e4, e5, e6⟩ := HI.out
      clear HI
      simp only at e1 e2 e3 e4 e5 e6 HS
      have E6 := Aside0.mk e6
      clear e6
      by_cases c0 : op.length = 0
      · have hn : stepE i x ⟨out, op, els, ins, deep⟩ = none := by unfold stepE; rw [if_pos c0]
        have hq := HQ2.out
        rw [hn] at hq
        have hre := HRes.out
        rw [← hq] at hre
        simp only [Option.bind_none] at hre
        subst hre
        clear hq HQ2 HV hn
        obtain ⟨⟨tag, r1, r2, r3, r4⟩, hB⟩ := HS
        obtain ⟨A7, c7, rfl⟩ := Kd.R_slice r2
        have c0i : (op.length : Int) = 0 := by omega
        go_wp2
        go_ret3
        exact ⟨_, rfl, Kd.R_nil _ _ _ _ _, below_alloc hB _⟩
      · obtain ⟨-, ⟨gp, cp, f1, m1⟩, ⟨ge, ce, f2, m2⟩, ⟨gi, ci, f3, m3⟩⟩ := HS.forms (by omega) (by omega) (by omega)
        subst f1; subst f2; subst f3
        have HX := HS.alloc (.cells #[.int .i64 x, .int .i64 y] 143)
        have BX : (wr.alloc (.cells #[.int .i64 x, .int .i64 y] 143)).heap[wr.heap.size]? = some (.cells #[.int .i64 x, .int .i64 y] 143 (0, 0)) := by unfold World.alloc; exact Array.getElem?_push_size
        have BXA := Aside0.mk BX
        obtain ⟨d, hdd⟩ : ∃ d, op.length = d + 1 := ⟨op.length - 1, by omega⟩
        have en : (op.length : Int) - 1 = (d : Int) := by omega
        have ew : IntKind.i64.wrap ((op.length : Int) - 1) = (d : Int) := by rw [IntKind.wrap_i64]; omega
        have DD := Aside0.mk hdd
        have E1 := Aside0.mk e1
        have E2 := Aside0.mk e2
        have l0 : 0 < op.length := by omega
        have l1 : (d : Int) < (els.length : Int) := by omega
        have l2 : (d : Int) < (ins.length : Int) := by omega
        have l3 : (d : Int) < (op.length : Int) := by omega
        have n1 : els.length ≤ 1000 := by omega
        have n2 : ins.length ≤ 1000 := by omega
        have n3 : op.length ≤ 1000 := by omega
        have n4 : deep ≤ 1000 := by omega
        have E5 := Aside0.mk e5
        clear BX HS hdd e1 e2 e5
        by_cases c1 : x = 2 ∨ x = 3 ∨ x = 4
        · rcases c1 with rfl | rfl | rfl
          · by_cases cd : deep < op.length + 1
            · skip
              have hstep : stepE i 2 ⟨out, op, els, ins, deep⟩ = some ⟨out, op ++ [(i : Int)], els ++ [true], ins ++ [[(i : Int)]], op.length + 1⟩ := by unfold stepE; rw [if_neg c0, if_pos (by decide), if_pos cd]; rfl
              have hq := HQ2.out
              rw [hstep] at hq
              simp only [Option.bind_some] at hq
              have HQ3 := Aside0.mk hq
              have HV3 := Aside0.mk (HV.out _ hstep)
              clear hq HQ2 HV hstep
              go_wp2_with (first
                | (at_builtin; (fail_if_success (have _ := H1)); refine HX.app_open (i : Int) (by omega) rfl _ _ rfl rfl _ rfl (by simp) ?_; intro v1 u1 H1 K1; have Q1 := K1 _ _ BXA.out; have z1 : u1.cell? ⟨wr.heap.size, 0, none⟩ = some _ := (blk_cell Q1 0).trans rfl; obtain ⟨Ap, fp, ep⟩ := St.op_form H1; subst ep; rw [List.length_append] at H1)
                | (at_builtin; have _ := H1; (fail_if_success (have _ := H2)); refine H1.app_els _ (by omega) rfl _ _ rfl rfl _ rfl (by simp) ?_; intro v2 u2 H2 K2)
                | (at_builtin; have _ := H2; refine H2.app_ins (i : Int) (by omega) rfl _ _ rfl rfl _ _ rfl (by simp) rfl ?_; intro v3 u3 H3 K3))
              go_roundg k1
              case measure => omega
              case rel => exact ⟨i + 1, _, by omega, by rw [Int.natCast_add]; rfl, by rw [Int.natCast_add]; rfl, H3, HV3, HQ3⟩
            · skip
              have hstep : stepE i 2 ⟨out, op, els, ins, deep⟩ = some ⟨out, op ++ [(i : Int)], els ++ [true], ins ++ [[(i : Int)]], deep⟩ := by unfold stepE; rw [if_neg c0, if_pos (by decide), if_neg cd]; rfl
              have hq := HQ2.out
              rw [hstep] at hq
              simp only [Option.bind_some] at hq
              have HQ3 := Aside0.mk hq
              have HV3 := Aside0.mk (HV.out _ hstep)
              clear hq HQ2 HV hstep
              go_wp2_with (first
                | (at_builtin; (fail_if_success (have _ := H1)); refine HX.app_open (i : Int) (by omega) rfl _ _ rfl rfl _ rfl (by simp) ?_; intro v1 u1 H1 K1; have Q1 := K1 _ _ BXA.out; have z1 : u1.cell? ⟨wr.heap.size, 0, none⟩ = some _ := (blk_cell Q1 0).trans rfl; obtain ⟨Ap, fp, ep⟩ := St.op_form H1; subst ep; rw [List.length_append] at H1)
                | (at_builtin; have _ := H1; (fail_if_success (have _ := H2)); refine H1.app_els _ (by omega) rfl _ _ rfl rfl _ rfl (by simp) ?_; intro v2 u2 H2 K2)
                | (at_builtin; have _ := H2; refine H2.app_ins (i : Int) (by omega) rfl _ _ rfl rfl _ _ rfl (by simp) rfl ?_; intro v3 u3 H3 K3))
              go_roundg k1
              case measure => omega
              case rel => exact ⟨i + 1, _, by omega, rfl, by rw [Int.natCast_add]; rfl, H3, HV3, HQ3⟩
          · by_cases cd : deep < op.length + 1
            · skip
              have hstep : stepE i 3 ⟨out, op, els, ins, deep⟩ = some ⟨out, op ++ [(i : Int)], els ++ [true], ins ++ [[(i : Int)]], op.length + 1⟩ := by unfold stepE; rw [if_neg c0, if_pos (by decide), if_pos cd]; rfl
              have hq := HQ2.out
              rw [hstep] at hq
              simp only [Option.bind_some] at hq
              have HQ3 := Aside0.mk hq
              have HV3 := Aside0.mk (HV.out _ hstep)
              clear hq HQ2 HV hstep
              go_wp2_with (first
                | (at_builtin; (fail_if_success (have _ := H1)); refine HX.app_open (i : Int) (by omega) rfl _ _ rfl rfl _ rfl (by simp) ?_; intro v1 u1 H1 K1; have Q1 := K1 _ _ BXA.out; have z1 : u1.cell? ⟨wr.heap.size, 0, none⟩ = some _ := (blk_cell Q1 0).trans rfl; obtain ⟨Ap, fp, ep⟩ := St.op_form H1; subst ep; rw [List.length_append] at H1)
                | (at_builtin; have _ := H1; (fail_if_success (have _ := H2)); refine H1.app_els _ (by omega) rfl _ _ rfl rfl _ rfl (by simp) ?_; intro v2 u2 H2 K2)
                | (at_builtin; have _ := H2; refine H2.app_ins (i : Int) (by omega) rfl _ _ rfl rfl _ _ rfl (by simp) rfl ?_; intro v3 u3 H3 K3))
              go_roundg k1
              case measure => omega
              case rel => exact ⟨i + 1, _, by omega, by rw [Int.natCast_add]; rfl, by rw [Int.natCast_add]; rfl, H3, HV3, HQ3⟩
            · skip
              have hstep : stepE i 3 ⟨out, op, els, ins, deep⟩ = some ⟨out, op ++ [(i : Int)], els ++ [true], ins ++ [[(i : Int)]], deep⟩ := by unfold stepE; rw [if_neg c0, if_pos (by decide), if_neg cd]; rfl
              have hq := HQ2.out
              rw [hstep] at hq
              simp only [Option.bind_some] at hq
              have HQ3 := Aside0.mk hq
              have HV3 := Aside0.mk (HV.out _ hstep)
              clear hq HQ2 HV hstep
              go_wp2_with (first
                | (at_builtin; (fail_if_success (have _ := H1)); refine HX.app_open (i : Int) (by omega) rfl _ _ rfl rfl _ rfl (by simp) ?_; intro v1 u1 H1 K1; have Q1 := K1 _ _ BXA.out; have z1 : u1.cell? ⟨wr.heap.size, 0, none⟩ = some _ := (blk_cell Q1 0).trans rfl; obtain ⟨Ap, fp, ep⟩ := St.op_form H1; subst ep; rw [List.length_append] at H1)
                | (at_builtin; have _ := H1; (fail_if_success (have _ := H2)); refine H1.app_els _ (by omega) rfl _ _ rfl rfl _ rfl (by simp) ?_; intro v2 u2 H2 K2)
                | (at_builtin; have _ := H2; refine H2.app_ins (i : Int) (by omega) rfl _ _ rfl rfl _ _ rfl (by simp) rfl ?_; intro v3 u3 H3 K3))
              go_roundg k1
              case measure => omega
              case rel => exact ⟨i + 1, _, by omega, rfl, by rw [Int.natCast_add]; rfl, H3, HV3, HQ3⟩
          · by_cases cd : deep < op.length + 1
            · skip
              have hstep : stepE i 4 ⟨out, op, els, ins, deep⟩ = some ⟨out, op ++ [(i : Int)], els ++ [false], ins ++ [[(i : Int)]], op.length + 1⟩ := by unfold stepE; rw [if_neg c0, if_pos (by decide), if_pos cd]; rfl
              have hq := HQ2.out
              rw [hstep] at hq
              simp only [Option.bind_some] at hq
              have HQ3 := Aside0.mk hq
              have HV3 := Aside0.mk (HV.out _ hstep)
              clear hq HQ2 HV hstep
              go_wp2_with (first
                | (at_builtin; (fail_if_success (have _ := H1)); refine HX.app_open (i : Int) (by omega) rfl _ _ rfl rfl _ rfl (by simp) ?_; intro v1 u1 H1 K1; have Q1 := K1 _ _ BXA.out; have z1 : u1.cell? ⟨wr.heap.size, 0, none⟩ = some _ := (blk_cell Q1 0).trans rfl; obtain ⟨Ap, fp, ep⟩ := St.op_form H1; subst ep; rw [List.length_append] at H1)
                | (at_builtin; have _ := H1; (fail_if_success (have _ := H2)); refine H1.app_els _ (by omega) rfl _ _ rfl rfl _ rfl (by simp) ?_; intro v2 u2 H2 K2)
                | (at_builtin; have _ := H2; refine H2.app_ins (i : Int) (by omega) rfl _ _ rfl rfl _ _ rfl (by simp) rfl ?_; intro v3 u3 H3 K3))
              go_roundg k1
              case measure => omega
              case rel => exact ⟨i + 1, _, by omega, by rw [Int.natCast_add]; rfl, by rw [Int.natCast_add]; rfl, H3, HV3, HQ3⟩
            · skip
              have hstep : stepE i 4 ⟨out, op, els, ins, deep⟩ = some ⟨out, op ++ [(i : Int)], els ++ [false], ins ++ [[(i : Int)]], deep⟩ := by unfold stepE; rw [if_neg c0, if_pos (by decide), if_neg cd]; rfl
              have hq := HQ2.out
              rw [hstep] at hq
              simp only [Option.bind_some] at hq
              have HQ3 := Aside0.mk hq
              have HV3 := Aside0.mk (HV.out _ hstep)
              clear hq HQ2 HV hstep
              go_wp2_with (first
                | (at_builtin; (fail_if_success (have _ := H1)); refine HX.app_open (i : Int) (by omega) rfl _ _ rfl rfl _ rfl (by simp) ?_; intro v1 u1 H1 K1; have Q1 := K1 _ _ BXA.out; have z1 : u1.cell? ⟨wr.heap.size, 0, none⟩ = some _ := (blk_cell Q1 0).trans rfl; obtain ⟨Ap, fp, ep⟩ := St.op_form H1; subst ep; rw [List.length_append] at H1)
                | (at_builtin; have _ := H1; (fail_if_success (have _ := H2)); refine H1.app_els _ (by omega) rfl _ _ rfl rfl _ rfl (by simp) ?_; intro v2 u2 H2 K2)
                | (at_builtin; have _ := H2; refine H2.app_ins (i : Int) (by omega) rfl _ _ rfl rfl _ _ rfl (by simp) rfl ?_; intro v3 u3 H3 K3))
              go_roundg k1
              case measure => omega
              case rel => exact ⟨i + 1, _, by omega, rfl, by rw [Int.natCast_add]; rfl, H3, HV3, HQ3⟩
        · by_cases c5 : x = 5
          · subst c5
            obtain ⟨v0, v1⟩ := HX.els_cell d (by omega)
            have hed : els.getD (op.length - 1) false = els[d]'(by omega) := by rw [List.getD_eq_getElem?_getD, show op.length - 1 = d by have := DD.out; omega, List.getElem?_eq_getElem (by omega)]; rfl
            generalize hb : els[d]'(by omega) = b at *
            clear hb
            cases b with
            | true =>
              have hn : stepE i 5 ⟨out, op, els, ins, deep⟩ = none := by unfold stepE; rw [if_neg c0, if_neg (by decide), if_pos ⟨rfl, hed⟩]
              have hq := HQ2.out
              rw [hn] at hq
              have hre := HRes.out
              rw [← hq] at hre
              simp only [Option.bind_none] at hre
              subst hre
              clear hq HQ2 HV hn hed
              go_wp2
              go_ret3
              exact ⟨_, rfl, Kd.R_nil _ _ _ _ _, HX.bel⟩
            | false =>
              have hc5 : ¬ ((5 : Int) = 5 ∧ els.getD (op.length - 1) false = true) := by rw [hed]; simp
              clear hed
              obtain ⟨S5, K5⟩ := HX.set_els d true
              have Q5 := K5 _ _ BXA.out
              have z5 := (blk_cell Q5 0).trans (show (#[Value.int .i64 5, Value.int .i64 y] : Array Value)[0]? = some (.int .i64 5) from rfl)
              have hd2 : d < ins.length := by omega
              have hd3 : d < ins.length := hd2
              have hrl : ins[d].length ≤ 100000 := by have := (E6.out _ (List.getElem_mem hd2)).1; omega
              obtain ⟨Ai, mi, y1, y2, y3⟩ := S5.ins_cell d hd2
              have eg : ins.getD d [] = ins[d] := by rw [List.getD_eq_getElem?_getD, List.getElem?_eq_getElem hd2]; rfl
              have ed : op.length - 1 = d := by have := DD.out; omega
              have hstep : stepE i 5 ⟨out, op, els, ins, deep⟩ = some ⟨out, op, els.set d true, ins.set d (ins[d] ++ [(i : Int)]), deep⟩ := by
                unfold stepE
                rw [if_neg c0, if_neg (by decide), if_neg hc5]
                simp only [ed, eg]; rfl
              have hq := HQ2.out
              rw [hstep] at hq
              simp only [Option.bind_some] at hq
              have HQ3 := Aside0.mk hq
              have HV3 := Aside0.mk (HV.out _ hstep)
              clear hq HQ2 HV hstep eg ed y2 y3
              go_wp2_with (first
                | (at_builtin; (fail_if_success (have _ := HH)); refine S5.app_top d hd2 (i : Int) hrl _ y1 rfl _ _ rfl rfl _ rfl (by simp) ?_; intro v1 u1 HH K1; have Q1 := K1 _ _ Q5)
                | ((with_reducible refine gate_store (t := 54) (p := 88) rfl ?_); have _ := HH; refine HH.store hd3 rfl rfl _ _ rfl rfl rfl ?_; intro u2 H2 K2; have Q2 := K2 _ _ Q1; have z2 : u2.cell? ⟨wr.heap.size, 0, none⟩ = some _ := (blk_cell Q2 0).trans rfl; clear HH))
              go_roundg k1
              case measure => omega
              case rel => exact ⟨i + 1, _, by omega, rfl, by rw [Int.natCast_add]; rfl, H2, HV3, HQ3⟩
          · by_cases c11 : x = 11
            · subst c11
              have S5 := HX
              have Q5 := BXA.out
              have hd2 : d < ins.length := by omega
              have hd3 : d < ins.length := hd2
              have hrl : ins[d].length ≤ 100000 := by have := (E6.out _ (List.getElem_mem hd2)).1; omega
              obtain ⟨Ai, mi, y1, y2, y3⟩ := S5.ins_cell d hd2
              have eg : ins.getD d [] = ins[d] := by rw [List.getD_eq_getElem?_getD, List.getElem?_eq_getElem hd2]; rfl
              have ed : op.length - 1 = d := by have := DD.out; omega
              have hstep : stepE i 11 ⟨out, op, els, ins, deep⟩ = some ⟨setAll out (ins[d] ++ [(i : Int)]) i, op.take d, els.take d, (ins.set d (ins[d] ++ [(i : Int)])).take d, deep⟩ := by
                unfold stepE
                rw [if_neg c0, if_neg (by decide), if_neg (by rintro ⟨h, _⟩; exact absurd h (by decide))]
                simp only [ed, eg]; rfl
              have hq := HQ2.out
              rw [hstep] at hq
              simp only [Option.bind_some] at hq
              have HQ3 := Aside0.mk hq
              have HV3 := Aside0.mk (HV.out _ hstep)
              clear hq HQ2 HV hstep eg ed y2 y3
              go_wp2_with (first
                | (at_builtin; (fail_if_success (have _ := HH)); refine S5.app_top d hd2 (i : Int) hrl _ y1 rfl _ _ rfl rfl _ rfl (by simp) ?_; intro v1 u1 HH K1; obtain ⟨row, hro⟩ : ∃ r, r = ins[d] ++ [(i : Int)] := ⟨_, rfl⟩; rw [← hro] at HH; have HRO := Aside0.mk hro; clear hro; have Q1 := K1 _ _ Q5)
                | ((with_reducible refine gate_store (t := 54) (p := 88) rfl ?_); have _ := HH; refine HH.store hd3 rfl rfl _ _ rfl rfl rfl ?_; intro u2 H2 K2; have Q2 := K2 _ _ Q1; have z2 : u2.cell? ⟨wr.heap.size, 0, none⟩ = some _ := (blk_cell Q2 0).trans rfl; obtain ⟨Ar, mr, p1, p2, p3⟩ := H2.ins_cell d (by rw [List.length_set]; exact hd2); rw [List.getElem_set_self] at p1 p3; clear HH))
              have E7 : Aside0 (∀ k ∈ row, 0 ≤ k ∧ k < (l.length : Int)) := ⟨fun k hk => by
                rw [HRO.out, List.mem_append, List.mem_singleton] at hk
                rcases hk with hk | rfl
                · have := (E6.out _ (List.getElem_mem hd2)).2 k hk; omega
                · omega⟩
              have hrlen : row.length ≤ 1000 := by rw [HRO.out, List.length_append, List.length_singleton]; have := (E6.out _ (List.getElem_mem hd2)).1; omega
              have hrpos : 0 < row.length := by rw [HRO.out, List.length_append, List.length_singleton]; omega
              obtain ⟨ar, ea, _⟩ := p3.at_ 0 (by omega) (by omega)
              subst ea
              have H2' : St w u2 (.slice (some ⟨b0, 0, none⟩) l.length l.length) (.slice (some ⟨gp, 0, none⟩) op.length cp) (.slice (some ⟨ge, 0, none⟩) els.length ce) (.slice (some ⟨gi, 0, none⟩) ins.length ci) (setAll out (row.take 0) i) op els (ins.set d row) := H2
              rw [← HRO.out] at HV3 HQ3
              clear p2 p3 H2 K1 K2 Q1 Q2 z2 Q5 S5 HX BXA y1 HRO
              go_loopg [97] row.length (fun kq v97 w' => ∃ j : Nat, j + kq = row.length ∧ v97 = .int .i64 j ∧ St w w' (.slice (some ⟨b0, 0, none⟩) l.length l.length) (.slice (some ⟨gp, 0, none⟩) op.length cp) (.slice (some ⟨ge, 0, none⟩) els.length ce) (.slice (some ⟨gi, 0, none⟩) ins.length ci) (setAll out (row.take j) i) op els (ins.set d row) ∧ w'.cell? ⟨gi, d, none⟩ = some (.slice (some ar) row.length mr))
              case atStart => exact ⟨0, by omega, rfl, H2', p1⟩
              case round =>
                clear H2' p1
                obtain ⟨j, hj, rfl, H3, pc⟩ := hrel
                cases gk with
                | zero =>
                  obtain rfl : j = row.length := by omega
                  rw [List.take_length] at H3
                  have hd9 : decide ((row.length : Int) < (row.length : Int)) = false := decide_eq_false (by omega)
                  have r1 : (d : Int) ≤ (cp : Int) := by omega
                  have r2 : (d : Int) ≤ (ce : Int) := by omega
                  have r3 : (d : Int) ≤ (ci : Int) := by omega
                  have H4 := H3.takes (m := d) rfl rfl rfl (by omega) (by omega) (by rw [List.length_set]; omega)
                  go_wp2
                  go_roundg k1
                  case measure => omega
                  case rel => exact ⟨i + 1, _, by omega, rfl, by rw [Int.natCast_add]; rfl, H4, HV3, HQ3⟩
                | succ k2 =>
                  have hjl : j < row.length := by omega
                  have hd9 : decide ((j : Int) < (row.length : Int)) = true := decide_eq_true (by omega)
                  have hrd := H3.ins_reads d (by rw [List.length_set]; exact hd2) pc
                  rw [List.getElem_set_self] at hrd
                  obtain ⟨ar', ea, hx⟩ := hrd.at_ (j : Int) (by omega) (by omega)
                  injection ea with ea
                  subst ea
                  rw [Pl.rd_at row j hjl, Int.toNat_natCast] at hx
                  have hsn : setAll out (row.take (j + 1)) i = (setAll out (row.take j) i).set (row[j]).toNat i := by
                    unfold setAll; rw [List.take_succ_eq_append_getElem hjl, List.foldl_append]; rfl
                  have HSN := Aside0.mk hsn
                  have hk7 := E7.out _ (List.getElem_mem hjl)
                  clear hrd hsn
                  generalize row[j] = k at *
                  obtain ⟨kn, rfl⟩ : ∃ kn : Nat, k = kn := ⟨k.toNat, by omega⟩
                  rw [Int.toNat_natCast] at HSN
                  obtain ⟨v7, o1, o2⟩ : ∃ v, wr.cell? ⟨b0, kn, none⟩ = some v ∧ wr.frozen? ⟨b0, kn, none⟩ = false := ⟨_, H3.out_cell kn (by rw [setAll_len]; have := E5.out; omega)⟩
                  obtain ⟨H5, K5, C5⟩ := H3.set_out kn i
                  have pc5 := Aside0.mk ((C5 gi (by simp [Value.ownBlock]) d).trans pc)
                  have hk8 : (kn : Int) < (l.length : Int) := hk7.2
                  clear hk7 pc
                  go_wp2
                  go_roundg k2
                  case measure => omega
                  case rel => exact ⟨j + 1, by omega, by rw [Int.natCast_add]; rfl, by rw [HSN.out]; exact H5, pc5.out⟩
            · have S5 := HX
              have Q5 := BXA.out
              have hd2 : d < ins.length := by omega
              have hd3 : d < ins.length := hd2
              have hrl : ins[d].length ≤ 100000 := by have := (E6.out _ (List.getElem_mem hd2)).1; omega
              obtain ⟨Ai, mi, y1, y2, y3⟩ := S5.ins_cell d hd2
              have eg : ins.getD d [] = ins[d] := by rw [List.getD_eq_getElem?_getD, List.getElem?_eq_getElem hd2]; rfl
              have ed : op.length - 1 = d := by have := DD.out; omega
              have hstep : stepE i x ⟨out, op, els, ins, deep⟩ = some ⟨out, op, els, ins.set d (ins[d] ++ [(i : Int)]), deep⟩ := by
                unfold stepE
                rw [if_neg c0, if_neg c1, if_neg (by rintro ⟨h, _⟩; exact c5 h)]
                simp only [ed, eg, if_neg c5, if_neg c11]
              have hq := HQ2.out
              rw [hstep] at hq
              simp only [Option.bind_some] at hq
              have HQ3 := Aside0.mk hq
              have HV3 := Aside0.mk (HV.out _ hstep)
              clear hq HQ2 HV hstep eg ed y2 y3
              go_wp2_with (first
                | (at_builtin; (fail_if_success (have _ := HH)); refine S5.app_top d hd2 (i : Int) hrl _ y1 rfl _ _ rfl rfl _ rfl (by simp) ?_; intro v1 u1 HH K1; have Q1 := K1 _ _ Q5)
                | ((with_reducible refine gate_store (t := 54) (p := 88) rfl ?_); have _ := HH; refine HH.store hd3 rfl rfl _ _ rfl rfl rfl ?_; intro u2 H2 K2; have Q2 := K2 _ _ Q1; have z2 : u2.cell? ⟨wr.heap.size, 0, none⟩ = some _ := (blk_cell Q2 0).trans rfl; clear HH))
              go_roundg k1
              case measure => omega
              case rel => exact ⟨i + 1, _, by omega, rfl, by rw [Int.natCast_add]; rfl, H2, HV3, HQ3⟩

end Go.Proofs.Ytfhnffondamhdaa.OwnEndsS
namespace Go.Proofs.Ytfhnffondamhdaa.OwnDeep
open Go Go.RowKit Go.Proofs.YtfhnffondamhdaaW.PrintWords Go.Proofs.YtfhnffondamhdaaW.PrintLast Go.Proofs.YtfhnffondamhdaaW.PrintMore Go.Proofs.Ytfhnffondamhdaa.OwnBs Go.Proofs.Ytfhnffondamhdaa.OwnKp Go.Proofs.Ytfhnffondamhdaa.OwnCode Go.Proofs.Ytfhnffondamhdaa.OwnSt
attribute [local go_sem] max2_int min2_int max_two min_two
set_option linter.unusedVariables false
set_option linter.unusedSimpArgs false
def opnB (x : Int) : Bool := decide (x = 2 ∨ x = 3 ∨ x = 4)
theorem opens_i (x : Int) (w : World) : Calls Try.prog 118 #[.int .i64 x] w fun e w' => e = .returned (.bool (opnB x)) ∧ ∃ n, w' = w.drewN n :=
  (Popens.impl_opens.calls x (opnB x) w (by
    unfold Popens.impl_opens.f opnB
    by_cases h1 : x = 2
    · rw [if_pos h1, decide_eq_true (.inl h1)]
    · rw [if_neg h1]
      by_cases h2 : x = 3
      · rw [if_pos h2, decide_eq_true (.inr (.inl h2))]
      · rw [if_neg h2]; simp only [Option.some.injEq]; show decide (x = 4) = _; rw [decide_eq_decide]; omega)).mono fun e w' h => ⟨h.1, h.2.out⟩
/-- The blocks around, and how many there were at most. -/
def stepD (x : Int) (s : List Int × Nat) : Option (List Int × Nat) :=
  if s.1.length = 0 then none
  else if x = 2 ∨ x = 3 ∨ x = 4 then some (s.1 ++ [x], if s.2 < s.1.length + 1 then s.1.length + 1 else s.2)
  else if x = 5 then (if s.1.getD (s.1.length - 1) 0 = 4 then some (s.1.set (s.1.length - 1) 5, s.2) else none)
  else if x = 11 then some (s.1.take (s.1.length - 1), s.2)
  else some s
def runD : List (Int × Int) → List Int × Nat → Option (List Int × Nat)
  | [], s => some s
  | x :: xs, s => (stepD x.1 s).bind (runD xs)
def resD : Option (List Int × Nat) → Nat
  | none => 0
  | some s => if 0 < s.1.length then 0 else s.2
def deepM (l : List (Int × Int)) : Nat := if goodC l = true then resD (runD l ([2], 1)) else 0
theorem stepD_bd {x : Int} {s s' : List Int × Nat} {i : Nat} (h : stepD x s = some s') (h1 : s.1.length ≤ i + 1) (h2 : s.2 ≤ i + 1) : s'.1.length ≤ i + 2 ∧ s'.2 ≤ i + 2 := by
  unfold stepD at h
  split at h
  · cases h
  · split at h
    · injection h with h; subst h; simp only [List.length_append, List.length_singleton]; refine ⟨by omega, ?_⟩; split <;> omega
    · split at h
      · split at h
        · injection h with h; subst h; simp only [List.length_set]; omega
        · cases h
      · split at h
        · injection h with h; subst h; simp only [List.length_take]; omega
        · injection h with h; subst h; omega
set_option maxRecDepth 100000 in
set_option maxHeartbeats 20000000 in
theorem deep_yes (A : Option Addr) (c : Nat) (l : List (Int × Int)) (w : World) (hr : Kd.C kI w A l.length l) (hc : l.length ≤ c) (g : goodC l = true) (R : Option (List Int × Nat)) (hRun : runD l ([2], 1) = R) (res : Nat) (hres : res = resD R) : Calls Try.prog 102 #[.slice A l.length c] w fun e w' => e = .returned (.int .i64 (res : Nat)) ∧ Below w.heap.size w w' := by
  have hl2 := goodC_len g
  have cg := fun w hr => good_i A c l w hr hc (by omega)
  have HR := Aside0.mk hr
  have HRun := Aside0.mk hRun
  have HRes := Aside0.mk hres
  rw [g] at cg
  clear hr g hRun hres
  go_enter Try.func102, Try.ntmps102
  go_wp2_with fail
  refine (cg _ HR.out).mono ?_
  rintro e w1 ⟨rfl, B1⟩
  clear cg
  have S0 := St.init1 B1 2
  go_wp2_with fail
  go_loopg [3, 4, 14] l.length (fun kq v3 v4 v14 w' => ∃ (i : Nat) (a : List Int) (m : Nat), i + kq = l.length ∧ v4 = .int .i64 m ∧ v14 = .int .i64 i ∧ St w w' (.slice none 0 0) v3 (.slice none 0 0) (.slice none 0 0) [] a [] [] ∧ Aside0 (a.length ≤ i + 1 ∧ m ≤ i + 1) ∧ Aside0 (runD (l.drop i) (a, m) = R))
  case atStart => exact ⟨0, [2], 1, by omega, rfl, rfl, S0, ⟨by simp, by simp⟩, HRun⟩
  case round =>
    clear S0 B1 HRun
    obtain ⟨i, a, m, hi, rfl, rfl, HS, HI, HQ⟩ := hrel
    cases gk with
    | zero =>
      obtain rfl : i = l.length := by omega
      have hq := HQ.out
      rw [List.drop_length] at hq
      have hre := HRes.out
      rw [← hq] at hre
      simp only [runD, resD] at hre
      have hd : decide ((l.length : Int) < (l.length : Int)) = false := decide_eq_false (by omega)
      obtain ⟨A3, c3, ef⟩ := HS.op_form
      subst ef
      clear hq HQ HRes HI
      by_cases hp : 0 < a.length
      · rw [if_pos hp] at hre
        subst hre
        go_wp2
        go_ret
        exact ⟨rfl, HS.bel⟩
      · rw [if_neg hp] at hre
        subst hre
        have hp0 : a.length ≤ 0 := by omega
        go_wp2
        go_ret
        exact ⟨rfl, HS.bel⟩
    | succ k1 =>
      have hil : i < l.length := by omega
      have hd : decide ((i : Int) < (l.length : Int)) = true := decide_eq_true (by omega)
      obtain ⟨ad, e, hx0, hx1⟩ := at_ins HR.out i hil
      subst e
      replace hx0 := (HS.bel.cell (World.block_lt_of_cell? w _ hx0)).trans hx0
      replace hx1 := (HS.bel.cell (World.block_lt_of_cell? w _ hx1)).trans hx1
      have HQ2 : Aside0 ((stepD l[i].1 (a, m)).bind (runD (l.drop (i + 1))) = R) := ⟨by have := HQ.out; rwa [List.drop_eq_getElem_cons hil] at this⟩
      have HV : Aside0 (∀ s', stepD l[i].1 (a, m) = some s' → s'.1.length ≤ i + 2 ∧ s'.2 ≤ i + 2) := ⟨fun s' hs => stepD_bd hs HI.out.1 HI.out.2⟩
      clear HQ
      generalize l[i].1 = x at *
      generalize l[i].2 = y at *
      obtain ⟨b1, b2⟩ := HI.out
      clear HI
      by_cases c0 : a.length = 0
      · have hn : stepD x (a, m) = none := by unfold stepD; rw [if_pos c0]
        have hq := HQ2.out
        rw [hn] at hq
        have hre := HRes.out
        rw [← hq] at hre
        simp only [Option.bind_none, resD] at hre
        subst hre
        obtain ⟨A3, c3, ef⟩ := HS.op_form
        subst ef
        have c0i : (a.length : Int) = 0 := by omega
        clear hq HQ2 HV hn c0
        go_wp2
        go_ret
        exact ⟨rfl, below_alloc HS.bel _⟩
      · obtain ⟨gp, cp, f1, m1⟩ := HS.op_pos (by omega)
        subst f1
        have HX := HS.alloc (.cells #[.int .i64 x, .int .i64 y] 143)
        obtain ⟨d, hdd⟩ : ∃ d, a.length = d + 1 := ⟨a.length - 1, by omega⟩
        have en : (a.length : Int) - 1 = (d : Int) := by omega
        have ew : IntKind.i64.wrap ((a.length : Int) - 1) = (d : Int) := by rw [IntKind.wrap_i64]; omega
        have hd2 : d < a.length := by omega
        have hd3 : (d : Int) < (a.length : Int) := by omega
        have ed : Aside0 (a.length - 1 = d) := ⟨by omega⟩
        have l0 : 0 < a.length := by omega
        have n1 : a.length ≤ 1000 := by omega
        have n2 : m ≤ 1000 := by omega
        have co := fun w => opens_i x w
        clear HS hdd
        by_cases c1 : x = 2 ∨ x = 3 ∨ x = 4
        · have ho : opnB x = true := by unfold opnB; rw [decide_eq_true c1]
          rw [ho] at co
          clear ho
          by_cases cd : m < a.length + 1
          · skip
            have hstep : stepD x (a, m) = some (a ++ [x], a.length + 1) := by
              unfold stepD
              simp only [if_neg c0, if_pos c1, if_pos cd]
            have hq := HQ2.out
            rw [hstep] at hq
            simp only [Option.bind_some] at hq
            have HQ3 := Aside0.mk hq
            have HV3 := Aside0.mk (HV.out _ hstep)
            clear hq HQ2 HV hstep
            have HY := fun n => (HX.below (pw_below_drewN (Below.refl _ _) n))
            go_wp2_with (first | (go_at_call 118; (with_reducible refine (co _).mono ?_); rintro e w2 ⟨rfl, n, rfl⟩) | (at_builtin; refine (HY n).app_open x (by omega) rfl _ _ rfl rfl _ rfl (by simp) ?_; intro v1 u1 H1 K1; obtain ⟨Ap, fp, ep⟩ := St.op_form H1; subst ep; rw [List.length_append] at H1))
            go_roundg k1
            case measure => omega
            case rel => exact ⟨i + 1, _, _, by omega, by rw [Int.natCast_add]; rfl, by rw [Int.natCast_add]; rfl, H1, HV3, HQ3⟩
          · skip
            have hstep : stepD x (a, m) = some (a ++ [x], m) := by
              unfold stepD
              simp only [if_neg c0, if_pos c1, if_neg cd]
            have hq := HQ2.out
            rw [hstep] at hq
            simp only [Option.bind_some] at hq
            have HQ3 := Aside0.mk hq
            have HV3 := Aside0.mk (HV.out _ hstep)
            clear hq HQ2 HV hstep
            have HY := fun n => (HX.below (pw_below_drewN (Below.refl _ _) n))
            go_wp2_with (first | (go_at_call 118; (with_reducible refine (co _).mono ?_); rintro e w2 ⟨rfl, n, rfl⟩) | (at_builtin; refine (HY n).app_open x (by omega) rfl _ _ rfl rfl _ rfl (by simp) ?_; intro v1 u1 H1 K1; obtain ⟨Ap, fp, ep⟩ := St.op_form H1; subst ep; rw [List.length_append] at H1))
            go_roundg k1
            case measure => omega
            case rel => exact ⟨i + 1, _, _, by omega, rfl, by rw [Int.natCast_add]; rfl, H1, HV3, HQ3⟩
        · have ho : opnB x = false := by unfold opnB; rw [decide_eq_false c1]
          rw [ho] at co
          clear ho
          by_cases c5 : x = 5
          · subst c5
            obtain ⟨v0, v1⟩ := HX.op_cell d hd2
            have hed : a.getD d 0 = a[d] := by rw [List.getD_eq_getElem?_getD, List.getElem?_eq_getElem hd2]; rfl
            generalize hb : a[d] = b at *
            clear hb
            by_cases hb4 : b = 4
            · subst hb4
              have hstep : stepD 5 (a, m) = some (a.set d 5, m) := by
                unfold stepD
                simp only [if_neg c0, if_neg c1, if_true, ed.out, hed]
              have hq := HQ2.out
              rw [hstep] at hq
              simp only [Option.bind_some] at hq
              have HQ3 := Aside0.mk hq
              have HV3 := Aside0.mk (HV.out _ hstep)
              clear hq HQ2 HV hstep
              clear hed
              have H1 := HX.set_op d 5
              have H2 := fun n => H1.below (pw_below_drewN (Below.refl _ _) n)
              go_wp2_with (go_at_call 118; (with_reducible refine (co _).mono ?_); rintro e w2 ⟨rfl, n, rfl⟩)
              go_roundg k1
              case measure => omega
              case rel => exact ⟨i + 1, _, _, by omega, rfl, by rw [Int.natCast_add]; rfl, H2 n, HV3, HQ3⟩
            · have hn : stepD 5 (a, m) = none := by unfold stepD; simp only [if_neg c0, if_neg c1, if_true, ed.out, hed, if_neg hb4]
              have hq := HQ2.out
              rw [hn] at hq
              have hre := HRes.out
              rw [← hq] at hre
              simp only [Option.bind_none, resD] at hre
              subst hre
              have hb5 : (b != 4) = true := bne_iff_ne.2 hb4
              clear hq HQ2 HV hn hed
              go_wp2_with (go_at_call 118; (with_reducible refine (co _).mono ?_); rintro e w2 ⟨rfl, n, rfl⟩)
              go_ret
              exact ⟨rfl, pw_below_drewN HX.bel _⟩
          · by_cases c11 : x = 11
            · subst c11
              have hstep : stepD 11 (a, m) = some (a.take d, m) := by
                unfold stepD
                simp only [if_neg c0, if_neg c1, if_neg c5, if_true, ed.out]
              have hq := HQ2.out
              rw [hstep] at hq
              simp only [Option.bind_some] at hq
              have HQ3 := Aside0.mk hq
              have HV3 := Aside0.mk (HV.out _ hstep)
              clear hq HQ2 HV hstep
              have r1 : (d : Int) ≤ (cp : Int) := by omega
              have H2 := fun n => (HX.take_op (m := d) (by omega)).below (pw_below_drewN (Below.refl _ _) n)
              go_wp2_with (go_at_call 118; (with_reducible refine (co _).mono ?_); rintro e w2 ⟨rfl, n, rfl⟩)
              go_roundg k1
              case measure => omega
              case rel => exact ⟨i + 1, _, _, by omega, rfl, by rw [Int.natCast_add]; rfl, H2 n, HV3, HQ3⟩
            · skip
              have hstep : stepD x (a, m) = some (a, m) := by
                unfold stepD
                simp only [if_neg c0, if_neg c1, if_neg c5, if_neg c11]
              have hq := HQ2.out
              rw [hstep] at hq
              simp only [Option.bind_some] at hq
              have HQ3 := Aside0.mk hq
              have HV3 := Aside0.mk (HV.out _ hstep)
              clear hq HQ2 HV hstep
              have H2 := fun n => HX.below (pw_below_drewN (Below.refl _ _) n)
              go_wp2_with (go_at_call 118; (with_reducible refine (co _).mono ?_); rintro e w2 ⟨rfl, n, rfl⟩)
              go_roundg k1
              case measure => omega
              case rel => exact ⟨i + 1, _, _, by omega, rfl, by rw [Int.natCast_add]; rfl, H2 n, HV3, HQ3⟩
theorem deep_i (A : Option Addr) (c : Nat) (l : List (Int × Int)) (w : World) (hr : Kd.C kI w A l.length l) (hc : l.length ≤ c) (hl : l.length ≤ 1048576) : Calls Try.prog 102 #[.slice A l.length c] w fun e w' => e = .returned (.int .i64 (deepM l : Nat)) ∧ Below w.heap.size w w' := by
  by_cases g : goodC l = true
  · have e : deepM l = resD (runD l ([2], 1)) := by unfold deepM; rw [if_pos g]
    rw [e]
    exact deep_yes A c l w hr hc g _ rfl _ rfl
  · have e : deepM l = 0 := by unfold deepM; rw [if_neg g]
    rw [e]
    have cg := fun w hr => good_i A c l w hr hc hl
    rw [Bool.eq_false_iff.2 g] at cg
    have HR := Aside0.mk hr
    clear g hr e
    go_enter Try.func102, Try.ntmps102
    go_wp2_with fail
    refine (cg _ HR.out).mono ?_
    rintro e w1 ⟨rfl, B1⟩
    go_wp2_with fail
    go_ret
    exact ⟨rfl, B1⟩

end Go.Proofs.Ytfhnffondamhdaa.OwnDeep
namespace Go.Proofs.Ytfhnffondamhdaa.OwnDeepEq
open Go Go.RowKit Go.Proofs.YtfhnffondamhdaaW.PrintWords Go.Proofs.YtfhnffondamhdaaW.PrintLast Go.Proofs.YtfhnffondamhdaaW.PrintMore Go.Proofs.Ytfhnffondamhdaa.OwnBs Go.Proofs.Ytfhnffondamhdaa.OwnKp Go.Proofs.Ytfhnffondamhdaa.OwnCode Go.Proofs.Ytfhnffondamhdaa.OwnSt Go.Proofs.Ytfhnffondamhdaa.OwnEndsS Go.Proofs.Ytfhnffondamhdaa.OwnDeep
set_option linter.unusedVariables false
set_option linter.unusedSimpArgs false
def RelE (s : EndSt) (a : List Int) (m : Nat) : Prop := s.els = a.map (fun k => k != 4) ∧ s.op.length = a.length ∧ s.deep = m ∧ 1 ≤ m
def BothE : Option EndSt → Option (List Int × Nat) → Prop
  | none, none => True
  | some s, some r => RelE s r.1 r.2
  | _, _ => False
theorem getD_map_ne (a : List Int) (d : Nat) (h : d < a.length) : (a.map (fun k => k != 4)).getD d false = (a.getD d 0 != 4) := by
  simp [List.getD_eq_getElem?_getD, List.getElem?_eq_getElem h]
theorem step_both (i : Nat) (x : Int) (s : EndSt) (a : List Int) (m : Nat) (h : RelE s a m) : BothE (stepE i x s) (stepD x (a, m)) := by
  obtain ⟨h1, h2, h3, h4⟩ := h
  unfold stepE stepD
  by_cases c0 : a.length = 0
  · rw [if_pos (by omega), if_pos c0]; trivial
  · rw [if_neg (by omega), if_neg c0]
    by_cases c1 : x = 2 ∨ x = 3 ∨ x = 4
    · rw [if_pos c1, if_pos c1]
      refine ⟨?_, by simp [h2], ?_, ?_⟩
      · show s.els ++ [x != 4] = (a ++ [x]).map _
        rw [List.map_append, h1]; rfl
      · show (if _ then _ else _) = (if _ then _ else _)
        rw [h2, h3]
      · show 1 ≤ (if m < a.length + 1 then a.length + 1 else m)
        split <;> omega
    · rw [if_neg c1, if_neg c1]
      have hg : s.els.getD (s.op.length - 1) false = (a.getD (a.length - 1) 0 != 4) := by rw [h1, h2]; exact getD_map_ne a _ (by omega)
      by_cases c5 : x = 5
      · subst c5
        rw [if_pos rfl]
        by_cases h4 : a.getD (a.length - 1) 0 = 4
        · rw [if_neg (by rw [hg, h4]; decide), if_pos h4]
          simp only [if_true, show ((5 : Int) = 11) = False by decide, if_false]
          refine ⟨?_, by simp [h2], h3, by assumption⟩
          show s.els.set _ true = (a.set _ 5).map _
          rw [List.map_set, h1, h2]; rfl
        · rw [if_pos ⟨rfl, by rw [hg]; simpa using h4⟩, if_neg h4]; trivial
      · rw [if_neg (fun h => c5 h.1), if_neg c5]
        by_cases c11 : x = 11
        · simp only [if_neg c5, if_pos c11]
          refine ⟨?_, ?_, h3, h4⟩
          · show s.els.take _ = (a.take _).map _
            rw [List.map_take, h1, h2]
          · show (s.op.take _).length = (a.take _).length
            rw [List.length_take, List.length_take, h2]
        · simp only [if_neg c5, if_neg c11]
          exact ⟨h1, h2, h3, h4⟩
theorem run_both : ∀ (l : List (Int × Int)) (i : Nat) (s : EndSt) (a : List Int) (m : Nat), RelE s a m → BothE (runE l i s) (runD l (a, m))
  | [], i, s, a, m, h => h
  | x :: xs, i, s, a, m, h => by
    have hb := step_both i x.1 s a m h
    unfold runE runD
    cases hE : stepE i x.1 s with
    | none =>
      cases hD : stepD x.1 (a, m) with
      | none => trivial
      | some r => rw [hE, hD] at hb; exact hb.elim
    | some s' =>
      cases hD : stepD x.1 (a, m) with
      | none => rw [hE, hD] at hb; exact hb.elim
      | some r =>
        rw [hE, hD] at hb
        exact run_both xs (i + 1) s' r.1 r.2 hb
/-- What the program tells is what the reference tells. -/
theorem deep_ends (l : List (Int × Int)) : deepM l = (if (endsM l).2.2 = true then (endsM l).2.1 else 0) ∧ ((endsM l).2.2 = true → 1 ≤ (endsM l).2.1) := by
  unfold deepM
  by_cases g : goodC l = true
  · rw [if_pos g]
    by_cases e : l = []
    · have e1 : endsM l = ([], 0, false) := by unfold endsM; exact if_neg (fun h => h.2 e)
      rw [e1]
      subst e
      exact ⟨rfl, fun h => by cases h⟩
    · have e1 : endsM l = resE (runE l 0 (iniE l.length)) := by unfold endsM; exact if_pos ⟨g, e⟩
      rw [e1]
      have hb := run_both l 0 (iniE l.length) [2] 1 ⟨rfl, rfl, rfl, Nat.le_refl _⟩
      cases hE : runE l 0 (iniE l.length) with
      | none =>
        cases hD : runD l ([2], 1) with
        | none => exact ⟨rfl, fun h => by cases h⟩
        | some r => rw [hE, hD] at hb; exact hb.elim
      | some s =>
        cases hD : runD l ([2], 1) with
        | none => rw [hE, hD] at hb; exact hb.elim
        | some r =>
          rw [hE, hD] at hb
          obtain ⟨_, h2, h3, h4⟩ := hb
          by_cases hp : 0 < r.1.length
          · have : (s.op.length == 0) = false := beq_eq_false_iff_ne.2 (by omega)
            have e2 : resE (some s) = (s.out, s.deep, false) := by show (s.out, s.deep, s.op.length == 0) = _; rw [this]
            have e3 : resD (some r) = 0 := if_pos hp
            rw [e2, e3]
            exact ⟨rfl, fun h => by cases h⟩
          · have : (s.op.length == 0) = true := beq_iff_eq.2 (by omega)
            have e2 : resE (some s) = (s.out, s.deep, true) := by show (s.out, s.deep, s.op.length == 0) = _; rw [this]
            have e3 : resD (some r) = r.2 := if_neg hp
            rw [e2, e3, if_pos rfl, ← h3]
            exact ⟨rfl, fun _ => by rw [h3]; exact h4⟩
  · have e1 : endsM l = ([], 0, false) := by unfold endsM; exact if_neg (fun h => g h.1)
    rw [if_neg g, e1]
    exact ⟨rfl, fun h => by cases h⟩
theorem ends_s (A : Option Addr) (c : Nat) (l : List (Int × Int)) (w : World) (hr : Kd.C kI w A l.length l) (hc : l.length ≤ c) (hl : l.length ≤ 1048576) : Calls Try.prog 96 #[.slice A l.length c] w (EndsPost w (endsM l)) := by
  by_cases g : goodC l = true ∧ l ≠ []
  · have e : endsM l = resE (runE l 0 (iniE l.length)) := by unfold endsM; rw [if_pos g]
    rw [e]
    exact ends_yes A c l w hr hc g.1 g.2 _ rfl _ rfl
  · have e : endsM l = ([], 0, false) := by unfold endsM; rw [if_neg g]
    rw [e]
    refine ends_no A c l w hr hc hl ?_
    by_cases h : goodC l = true
    · exact .inr (Classical.byContradiction fun h2 => g ⟨h, h2⟩)
    · exact .inl (Bool.eq_false_iff.2 h)
end Go.Proofs.Ytfhnffondamhdaa.OwnDeepEq
namespace Go.Proofs.Ytfhnffondamhdaa.OwnFn
open Go Go.RowKit Go.Proofs.YtfhnffondamhdaaW.PrintWords Go.Proofs.YtfhnffondamhdaaW.PrintLast Go.Proofs.YtfhnffondamhdaaW.PrintMore Go.Proofs.Ytfhnffondamhdaa.OwnBs Go.Proofs.Ytfhnffondamhdaa.OwnKp Go.Proofs.Ytfhnffondamhdaa.OwnCode Go.Proofs.Ytfhnffondamhdaa.OwnSt Go.Proofs.Ytfhnffondamhdaa.OwnEndsS Go.Proofs.Ytfhnffondamhdaa.OwnDeep Go.Proofs.Ytfhnffondamhdaa.OwnDeepEq
set_option linter.unusedVariables false
set_option linter.unusedSimpArgs false
/-- A type. -/
def tyB (x : Int) : Bool := decide (125 ≤ x ∧ x ≤ 127)
/-- So many types at most. -/
def tysM (m : Int) (l : List Int) : Bool := l.all tyB && decide ((l.length : Int) ≤ m)
theorem ty_i (x : Int) (w : World) : Calls Try.prog 81 #[.int .i64 x] w fun e w' => e = .returned (.bool (tyB x)) ∧ Below w.heap.size w w' := by
  refine (PgoodTypes.impl_goodType.calls x (tyB x) w ?_).mono fun e w' h => ⟨h.1, h.2.below⟩
  unfold PgoodTypes.impl_goodType.f tyB
  split
  · simp; omega
  · split
    · simp; omega
    · congr 1; rw [Bool.eq_iff_iff]; simp; omega
theorem ty_s (x : Int) (w : World) : Calls Try.prog 72 #[.int .i64 x] w fun e w' => e = .returned (.bool (tyB x)) ∧ Below w.heap.size w w' := by
  refine (Pl7Types.spec_l6Type.calls x (tyB x) w ?_).mono fun e w' h => ⟨h.1, h.2.below⟩
  unfold Pl7Types.spec_l6Type.f Pl7Types.spec_l1In.f tyB
  split
  · simp only [Option.bind_some]; congr 1; rw [Bool.eq_iff_iff]; simp; omega
  · simp only [Option.bind_some]; congr 1; rw [Bool.eq_iff_iff]; simp; omega
theorem drop_all (l : List Int) (i : Nat) (h : i < l.length) : (l.drop i).all tyB = (tyB l[i] && (l.drop (i + 1)).all tyB) := by
  rw [List.drop_eq_getElem_cons h, List.all_cons]
theorem types_told_i (l : List Int) (m : Int) (hl : l.length ≤ 1048576) : Ev (fun k => PgoodTypes.impl_goodTypes.f k l m) (tysM m l) := by
  have key : ∀ (j i : Nat), i + j = l.length → Ev (fun k => PgoodTypes.impl_goodTypes.l0 k l (l.length : Int) (i : Int)) ((l.drop i).all tyB) := by
    intro j
    induction j with
    | zero =>
      intro i hi
      refine Pl.ev_const 1 fun k => ?_
      simp only [PgoodTypes.impl_goodTypes.l0]
      rw [if_neg (by omega), List.drop_of_length_le (by omega)]
      rfl
    | succ j ih =>
      intro i hi
      have hg : PgoodTypes.impl_goodType.f l[i] = some (tyB l[i]) := by
        unfold PgoodTypes.impl_goodType.f tyB
        split; · simp; omega
        · split; · simp; omega
          · congr 1; rw [Bool.eq_iff_iff]; simp; omega
      rw [drop_all l i (by omega)]
      cases ht : tyB l[i] with
      | true =>
        rw [Bool.true_and]
        refine Pl.ev_skip 1 (fun k => ?_) (ih (i + 1) (by omega))
        show PgoodTypes.impl_goodTypes.l0 (k + 1) l _ (i : Int) = _
        simp only [PgoodTypes.impl_goodTypes.l0]
        rw [if_pos (by omega), if_pos (by omega), if_pos (by omega), Pl.rd_at l i (by omega), hg, ht, Pl.w64s i l.length (by omega) (by omega)]
        rfl
      | false =>
        rw [Bool.false_and]
        refine Pl.ev_const 1 fun k => ?_
        show PgoodTypes.impl_goodTypes.l0 (k + 1) l _ (i : Int) = _
        simp only [PgoodTypes.impl_goodTypes.l0]
        rw [if_pos (by omega), if_pos (by omega), if_pos (by omega), Pl.rd_at l i (by omega), hg, ht]
        rfl
  unfold PgoodTypes.impl_goodTypes.f tysM
  by_cases h : (l.length : Int) > m
  · rw [decide_eq_false (by omega), Bool.and_false]
    exact Pl.ev_const 0 fun k => if_pos h
  · rw [decide_eq_true (by omega), Bool.and_true]
    simp only [if_neg h]
    exact key l.length 0 (by omega)
theorem types_told_s (l : List Int) (m : Int) (hl : l.length ≤ 1048576) : Ev (fun k => Pl7Types.spec_l7Types.f k l m) (tysM m l) := by
  have key : ∀ (j i : Nat), i + j = l.length → Ev (fun k => Pl7Types.spec_l7Types.l0 k l m l (l.length : Int) (i : Int)) ((l.drop i).all tyB && decide ((l.length : Int) ≤ m)) := by
    intro j
    induction j with
    | zero =>
      intro i hi
      refine Pl.ev_const 1 fun k => ?_
      simp only [Pl7Types.spec_l7Types.l0]
      rw [if_neg (by omega), List.drop_of_length_le (by omega)]
      rfl
    | succ j ih =>
      intro i hi
      have hg : Pl7Types.spec_l6Type.f l[i] = some (tyB l[i]) := by
        unfold Pl7Types.spec_l6Type.f Pl7Types.spec_l1In.f tyB
        split
        · simp only [Option.bind_some]; congr 1; rw [Bool.eq_iff_iff]; simp; omega
        · simp only [Option.bind_some]; congr 1; rw [Bool.eq_iff_iff]; simp; omega
      rw [drop_all l i (by omega)]
      cases ht : tyB l[i] with
      | true =>
        rw [Bool.true_and]
        refine Pl.ev_skip 1 (fun k => ?_) (ih (i + 1) (by omega))
        show Pl7Types.spec_l7Types.l0 (k + 1) l m l _ (i : Int) = _
        simp only [Pl7Types.spec_l7Types.l0]
        rw [if_pos (by omega), if_pos (by omega), if_pos (by omega), Pl.rd_at l i (by omega), hg, ht, Pl.w64s i l.length (by omega) (by omega)]
        rfl
      | false =>
        rw [Bool.false_and, Bool.false_and]
        refine Pl.ev_const 1 fun k => ?_
        show Pl7Types.spec_l7Types.l0 (k + 1) l m l _ (i : Int) = _
        simp only [Pl7Types.spec_l7Types.l0]
        rw [if_pos (by omega), if_pos (by omega), if_pos (by omega), Pl.rd_at l i (by omega), hg, ht]
        rfl
  unfold Pl7Types.spec_l7Types.f tysM
  exact key l.length 0 (by omega)
theorem tys_i (A : Option Addr) (c : Nat) (l : List Int) (m : Int) (w : World) (hr : Kd.C (Kd.int .i64) w A l.length l) (hc : l.length ≤ c) (hl : l.length ≤ 1048576) : Calls Try.prog 101 #[.slice A l.length c, .int .i64 m] w fun e w' => e = .returned (.bool (tysM m l)) ∧ Below w.heap.size w w' := by
  obtain ⟨k, hk⟩ := (types_told_i l m hl).rounds
  exact (PgoodTypes.impl_goodTypes.calls k A c l m _ w hr hc hk).mono fun e w' h => ⟨h.1, h.2.below⟩
theorem tys_s (A : Option Addr) (c : Nat) (l : List Int) (m : Int) (w : World) (hr : Kd.C (Kd.int .i64) w A l.length l) (hc : l.length ≤ c) (hl : l.length ≤ 1048576) : Calls Try.prog 97 #[.slice A l.length c, .int .i64 m] w fun e w' => e = .returned (.bool (tysM m l)) ∧ Below w.heap.size w w' := by
  obtain ⟨k, hk⟩ := (types_told_s l m hl).rounds
  exact (Pl7Types.spec_l7Types.calls k A c l m _ w hr hc hk).mono fun e w' h => ⟨h.1, h.2.below⟩
/-- A func as a value. -/
abbrev fnV (Ap : Option Addr) (cp : Nat) (p : List Int) (r : Int) (Al : Option Addr) (cl : Nat) (lo : List Int) (Ab : Option Addr) (cb : Nat) (b : List (Int × Int)) : Value :=
  .agg #[.slice Ap p.length cp, .int .i64 r, .slice Al lo.length cl, .slice Ab b.length cb]
/-- A func's three rows. -/
structure FnR (w : World) (Ap : Option Addr) (cp : Nat) (p : List Int) (Al : Option Addr) (cl : Nat) (lo : List Int) (Ab : Option Addr) (cb : Nat) (b : List (Int × Int)) : Prop where
  p1 : Kd.C (Kd.int .i64) w Ap p.length p
  l1 : Kd.C (Kd.int .i64) w Al lo.length lo
  b1 : Kd.C kI w Ab b.length b
  p2 : p.length ≤ cp
  l2 : lo.length ≤ cl
  b2 : b.length ≤ cb
theorem FnR.below {w w' : World} {Ap cp p Al cl lo Ab cb b} (h : FnR w Ap cp p Al cl lo Ab cb b) (B : Below w.heap.size w w') : FnR w' Ap cp p Al cl lo Ab cb b :=
  ⟨Kd.C_below h.p1 B, Kd.C_below h.l1 B, Kd.C_below h.b1 B, h.p2, h.l2, h.b2⟩
/-- What is good of a func. -/
def fnG (p : List Int) (r : Int) (lo : List Int) (b : List (Int × Int)) : Bool := tysM 6 p && tysM 20 lo && (tyB r || decide (r = 64)) && (endsM b).2.2
set_option maxRecDepth 100000 in
set_option maxHeartbeats 4000000 in
theorem good_fn_i (Ap : Option Addr) (cp : Nat) (p : List Int) (r : Int) (Al : Option Addr) (cl : Nat) (lo : List Int) (Ab : Option Addr) (cb : Nat) (b : List (Int × Int)) (w : World) (hr : FnR w Ap cp p Al cl lo Ab cb b) (hp : p.length ≤ 1048576) (hl : lo.length ≤ 1048576) (hb : b.length ≤ 1048576) : Calls Try.prog 67 #[fnV Ap cp p r Al cl lo Ab cb b] w fun e w' => e = .returned (.bool (fnG p r lo b)) ∧ Below w.heap.size w w' := by
  have HR := Aside0.mk hr
  have kp := Aside0.mk hp
  have kl := Aside0.mk hl
  have kb := Aside0.mk hb
  have cp' := fun W (B : Below w.heap.size w W) => tys_i Ap cp p 6 W (Kd.C_below HR.out.p1 B) HR.out.p2 kp.out
  have cl' := fun W (B : Below w.heap.size w W) => tys_i Al cl lo 20 W (Kd.C_below HR.out.l1 B) HR.out.l2 kl.out
  have ct' := fun W => ty_i r W
  have cb' := fun W (B : Below w.heap.size w W) => deep_i Ab cb b W (Kd.C_below HR.out.b1 B) HR.out.b2 kb.out
  have hd := deep_ends b
  unfold fnG
  clear hr hp hl hb
  generalize tysM 6 p = b1 at *
  generalize tysM 20 lo = b2 at *
  generalize tyB r = b3 at *
  generalize endsM b = q at *
  generalize deepM b = n at *
  obtain ⟨out, dp, ok⟩ := q
  obtain ⟨h1, h2⟩ := hd
  cases b1 with
  | false =>
    clear h1 h2 cl' ct' cb'
    go_enter Try.func67, Try.ntmps67
    go_wp2_with (first
      | (go_at_call 101; (fail_if_success (have _ := hb1)); (with_reducible refine (cp' _ (by repeat (first | with_reducible first | exact Below.refl _ _ | refine below_alloc ?_ _ | refine below_drew1 ?_ | refine pw_below_drewN ?_ _ | refine below_set ?_ (by omega)))).mono ?_); rintro e w1 ⟨rfl, hb1⟩; obtain ⟨hc1, hf1⟩ := bcell hb1; have hz1_0_0 : w.heap.size < w1.heap.size := (by have := hb1.size; first | omega | (simp at this; omega))))
    refine bodyPost_ret (v := .bool false) (by simp [results, Try.results67, go_sem, hc1, hf1, hz1_0_0]) rfl ⟨rfl, ?_⟩
    repeat (first | with_reducible first | exact Below.refl _ _ | refine below_alloc ?_ _ | refine below_drew1 ?_ | refine pw_below_drewN ?_ _ | refine below_set ?_ (by omega) | refine below_step ?_ hb1)
  | true =>
    cases b2 with
    | false =>
      clear h1 h2 ct' cb'
      go_enter Try.func67, Try.ntmps67
      go_wp2_with (first
        | (go_at_call 101; (fail_if_success (have _ := hb2)); have _ := hb1; (with_reducible refine (cl' _ (by repeat (first | with_reducible first | exact Below.refl _ _ | refine below_alloc ?_ _ | refine below_drew1 ?_ | refine pw_below_drewN ?_ _ | refine below_set ?_ (by omega) | refine below_step ?_ hb1))).mono ?_); rintro e w2 ⟨rfl, hb2⟩; obtain ⟨hc2, hf2⟩ := bcell hb2; have hz2_0_0 : w.heap.size < w2.heap.size := (by have := hb2.size; first | omega | (simp at this; omega)))
        | (go_at_call 101; (fail_if_success (have _ := hb1)); (with_reducible refine (cp' _ (by repeat (first | with_reducible first | exact Below.refl _ _ | refine below_alloc ?_ _ | refine below_drew1 ?_ | refine pw_below_drewN ?_ _ | refine below_set ?_ (by omega)))).mono ?_); rintro e w1 ⟨rfl, hb1⟩; obtain ⟨hc1, hf1⟩ := bcell hb1; have hz1_0_0 : w.heap.size < w1.heap.size := (by have := hb1.size; first | omega | (simp at this; omega))))
      refine bodyPost_ret (v := .bool false) (by simp [results, Try.results67, go_sem, hc1, hf1, hz1_0_0, hc2, hf2, hz2_0_0]) rfl ⟨rfl, ?_⟩
      repeat (first | with_reducible first | exact Below.refl _ _ | refine below_alloc ?_ _ | refine below_drew1 ?_ | refine pw_below_drewN ?_ _ | refine below_set ?_ (by omega) | refine below_step ?_ hb2 | refine below_step ?_ hb1)
    | true =>
      have key : ∀ (bt : Bool), (b3 || decide (r = 64)) = bt → bt = true → ok = true → 1 ≤ dp := fun _ _ _ h => h2 h
      cases b3 with
      | true =>
        cases ok with
        | true =>
          have h3 : 1 ≤ dp := h2 rfl
          have h5 : n = dp := h1
          clear h1 h2 key
          subst h5
          have h4 : decide ((0 : Int) < (n : Int)) = true := decide_eq_true (by omega)
          have h6 : decide (0 < n) = true := decide_eq_true (by omega)
          go_enter Try.func67, Try.ntmps67
          go_wp2_with (first
            | (go_at_call 102; (fail_if_success (have _ := hb4)); have _ := hb3; (with_reducible refine (cb' _ (by repeat (first | with_reducible first | exact Below.refl _ _ | refine below_alloc ?_ _ | refine below_drew1 ?_ | refine pw_below_drewN ?_ _ | refine below_set ?_ (by omega) | refine below_step ?_ hb3 | refine below_step ?_ hb2 | refine below_step ?_ hb1))).mono ?_); rintro e w4 ⟨rfl, hb4⟩; obtain ⟨hc4, hf4⟩ := bcell hb4; have hz4_0_0 : w.heap.size < w4.heap.size := (by have := hb4.size; first | omega | (simp at this; omega)))
            | (go_at_call 81; (fail_if_success (have _ := hb3)); have _ := hb2; (with_reducible refine (ct' _).mono ?_); rintro e w3 ⟨rfl, hb3⟩; obtain ⟨hc3, hf3⟩ := bcell hb3; have hz3_0_0 : w.heap.size < w3.heap.size := (by have := hb3.size; first | omega | (simp at this; omega)))
            | (go_at_call 101; (fail_if_success (have _ := hb2)); have _ := hb1; (with_reducible refine (cl' _ (by repeat (first | with_reducible first | exact Below.refl _ _ | refine below_alloc ?_ _ | refine below_drew1 ?_ | refine pw_below_drewN ?_ _ | refine below_set ?_ (by omega) | refine below_step ?_ hb1))).mono ?_); rintro e w2 ⟨rfl, hb2⟩; obtain ⟨hc2, hf2⟩ := bcell hb2; have hz2_0_0 : w.heap.size < w2.heap.size := (by have := hb2.size; first | omega | (simp at this; omega)))
            | (go_at_call 101; (fail_if_success (have _ := hb1)); (with_reducible refine (cp' _ (by repeat (first | with_reducible first | exact Below.refl _ _ | refine below_alloc ?_ _ | refine below_drew1 ?_ | refine pw_below_drewN ?_ _ | refine below_set ?_ (by omega)))).mono ?_); rintro e w1 ⟨rfl, hb1⟩; obtain ⟨hc1, hf1⟩ := bcell hb1; have hz1_0_0 : w.heap.size < w1.heap.size := (by have := hb1.size; first | omega | (simp at this; omega))))
          refine bodyPost_ret (v := .bool true) (by simp [results, Try.results67, go_sem, hc1, hf1, hz1_0_0, hc2, hf2, hz2_0_0, hc3, hf3, hz3_0_0, hc4, hf4, hz4_0_0]) rfl ⟨rfl, ?_⟩
          repeat (first | with_reducible first | exact Below.refl _ _ | refine below_alloc ?_ _ | refine below_drew1 ?_ | refine pw_below_drewN ?_ _ | refine below_set ?_ (by omega) | refine below_step ?_ hb4 | refine below_step ?_ hb3 | refine below_step ?_ hb2 | refine below_step ?_ hb1)
        | false =>
          have h5 : n = 0 := h1
          clear h1 h2 key
          subst h5
          go_enter Try.func67, Try.ntmps67
          go_wp2_with (first
            | (go_at_call 102; (fail_if_success (have _ := hb4)); have _ := hb3; (with_reducible refine (cb' _ (by repeat (first | with_reducible first | exact Below.refl _ _ | refine below_alloc ?_ _ | refine below_drew1 ?_ | refine pw_below_drewN ?_ _ | refine below_set ?_ (by omega) | refine below_step ?_ hb3 | refine below_step ?_ hb2 | refine below_step ?_ hb1))).mono ?_); rintro e w4 ⟨rfl, hb4⟩; obtain ⟨hc4, hf4⟩ := bcell hb4; have hz4_0_0 : w.heap.size < w4.heap.size := (by have := hb4.size; first | omega | (simp at this; omega)))
            | (go_at_call 81; (fail_if_success (have _ := hb3)); have _ := hb2; (with_reducible refine (ct' _).mono ?_); rintro e w3 ⟨rfl, hb3⟩; obtain ⟨hc3, hf3⟩ := bcell hb3; have hz3_0_0 : w.heap.size < w3.heap.size := (by have := hb3.size; first | omega | (simp at this; omega)))
            | (go_at_call 101; (fail_if_success (have _ := hb2)); have _ := hb1; (with_reducible refine (cl' _ (by repeat (first | with_reducible first | exact Below.refl _ _ | refine below_alloc ?_ _ | refine below_drew1 ?_ | refine pw_below_drewN ?_ _ | refine below_set ?_ (by omega) | refine below_step ?_ hb1))).mono ?_); rintro e w2 ⟨rfl, hb2⟩; obtain ⟨hc2, hf2⟩ := bcell hb2; have hz2_0_0 : w.heap.size < w2.heap.size := (by have := hb2.size; first | omega | (simp at this; omega)))
            | (go_at_call 101; (fail_if_success (have _ := hb1)); (with_reducible refine (cp' _ (by repeat (first | with_reducible first | exact Below.refl _ _ | refine below_alloc ?_ _ | refine below_drew1 ?_ | refine pw_below_drewN ?_ _ | refine below_set ?_ (by omega)))).mono ?_); rintro e w1 ⟨rfl, hb1⟩; obtain ⟨hc1, hf1⟩ := bcell hb1; have hz1_0_0 : w.heap.size < w1.heap.size := (by have := hb1.size; first | omega | (simp at this; omega))))
          refine bodyPost_ret (v := .bool false) (by simp [results, Try.results67, go_sem, hc1, hf1, hz1_0_0, hc2, hf2, hz2_0_0, hc3, hf3, hz3_0_0, hc4, hf4, hz4_0_0]) rfl ⟨rfl, ?_⟩
          repeat (first | with_reducible first | exact Below.refl _ _ | refine below_alloc ?_ _ | refine below_drew1 ?_ | refine pw_below_drewN ?_ _ | refine below_set ?_ (by omega) | refine below_step ?_ hb4 | refine below_step ?_ hb3 | refine below_step ?_ hb2 | refine below_step ?_ hb1)
      | false =>
        by_cases e64 : r = 64
        · subst e64
          cases ok with
          | true =>
            have h3 : 1 ≤ dp := h2 rfl
            have h5 : n = dp := h1
            clear h1 h2 key
            subst h5
            have h4 : decide ((0 : Int) < (n : Int)) = true := decide_eq_true (by omega)
            have h6 : decide (0 < n) = true := decide_eq_true (by omega)
            go_enter Try.func67, Try.ntmps67
            go_wp2_with (first
              | (go_at_call 102; (fail_if_success (have _ := hb4)); have _ := hb3; (with_reducible refine (cb' _ (by repeat (first | with_reducible first | exact Below.refl _ _ | refine below_alloc ?_ _ | refine below_drew1 ?_ | refine pw_below_drewN ?_ _ | refine below_set ?_ (by omega) | refine below_step ?_ hb3 | refine below_step ?_ hb2 | refine below_step ?_ hb1))).mono ?_); rintro e w4 ⟨rfl, hb4⟩; obtain ⟨hc4, hf4⟩ := bcell hb4; have hz4_0_0 : w.heap.size < w4.heap.size := (by have := hb4.size; first | omega | (simp at this; omega)))
              | (go_at_call 81; (fail_if_success (have _ := hb3)); have _ := hb2; (with_reducible refine (ct' _).mono ?_); rintro e w3 ⟨rfl, hb3⟩; obtain ⟨hc3, hf3⟩ := bcell hb3; have hz3_0_0 : w.heap.size < w3.heap.size := (by have := hb3.size; first | omega | (simp at this; omega)))
              | (go_at_call 101; (fail_if_success (have _ := hb2)); have _ := hb1; (with_reducible refine (cl' _ (by repeat (first | with_reducible first | exact Below.refl _ _ | refine below_alloc ?_ _ | refine below_drew1 ?_ | refine pw_below_drewN ?_ _ | refine below_set ?_ (by omega) | refine below_step ?_ hb1))).mono ?_); rintro e w2 ⟨rfl, hb2⟩; obtain ⟨hc2, hf2⟩ := bcell hb2; have hz2_0_0 : w.heap.size < w2.heap.size := (by have := hb2.size; first | omega | (simp at this; omega)))
              | (go_at_call 101; (fail_if_success (have _ := hb1)); (with_reducible refine (cp' _ (by repeat (first | with_reducible first | exact Below.refl _ _ | refine below_alloc ?_ _ | refine below_drew1 ?_ | refine pw_below_drewN ?_ _ | refine below_set ?_ (by omega)))).mono ?_); rintro e w1 ⟨rfl, hb1⟩; obtain ⟨hc1, hf1⟩ := bcell hb1; have hz1_0_0 : w.heap.size < w1.heap.size := (by have := hb1.size; first | omega | (simp at this; omega))))
            refine bodyPost_ret (v := .bool true) (by simp [results, Try.results67, go_sem, hc1, hf1, hz1_0_0, hc2, hf2, hz2_0_0, hc3, hf3, hz3_0_0, hc4, hf4, hz4_0_0]) rfl ⟨rfl, ?_⟩
            repeat (first | with_reducible first | exact Below.refl _ _ | refine below_alloc ?_ _ | refine below_drew1 ?_ | refine pw_below_drewN ?_ _ | refine below_set ?_ (by omega) | refine below_step ?_ hb4 | refine below_step ?_ hb3 | refine below_step ?_ hb2 | refine below_step ?_ hb1)
          | false =>
            have h5 : n = 0 := h1
            clear h1 h2 key
            subst h5
            go_enter Try.func67, Try.ntmps67
            go_wp2_with (first
              | (go_at_call 102; (fail_if_success (have _ := hb4)); have _ := hb3; (with_reducible refine (cb' _ (by repeat (first | with_reducible first | exact Below.refl _ _ | refine below_alloc ?_ _ | refine below_drew1 ?_ | refine pw_below_drewN ?_ _ | refine below_set ?_ (by omega) | refine below_step ?_ hb3 | refine below_step ?_ hb2 | refine below_step ?_ hb1))).mono ?_); rintro e w4 ⟨rfl, hb4⟩; obtain ⟨hc4, hf4⟩ := bcell hb4; have hz4_0_0 : w.heap.size < w4.heap.size := (by have := hb4.size; first | omega | (simp at this; omega)))
              | (go_at_call 81; (fail_if_success (have _ := hb3)); have _ := hb2; (with_reducible refine (ct' _).mono ?_); rintro e w3 ⟨rfl, hb3⟩; obtain ⟨hc3, hf3⟩ := bcell hb3; have hz3_0_0 : w.heap.size < w3.heap.size := (by have := hb3.size; first | omega | (simp at this; omega)))
              | (go_at_call 101; (fail_if_success (have _ := hb2)); have _ := hb1; (with_reducible refine (cl' _ (by repeat (first | with_reducible first | exact Below.refl _ _ | refine below_alloc ?_ _ | refine below_drew1 ?_ | refine pw_below_drewN ?_ _ | refine below_set ?_ (by omega) | refine below_step ?_ hb1))).mono ?_); rintro e w2 ⟨rfl, hb2⟩; obtain ⟨hc2, hf2⟩ := bcell hb2; have hz2_0_0 : w.heap.size < w2.heap.size := (by have := hb2.size; first | omega | (simp at this; omega)))
              | (go_at_call 101; (fail_if_success (have _ := hb1)); (with_reducible refine (cp' _ (by repeat (first | with_reducible first | exact Below.refl _ _ | refine below_alloc ?_ _ | refine below_drew1 ?_ | refine pw_below_drewN ?_ _ | refine below_set ?_ (by omega)))).mono ?_); rintro e w1 ⟨rfl, hb1⟩; obtain ⟨hc1, hf1⟩ := bcell hb1; have hz1_0_0 : w.heap.size < w1.heap.size := (by have := hb1.size; first | omega | (simp at this; omega))))
            refine bodyPost_ret (v := .bool false) (by simp [results, Try.results67, go_sem, hc1, hf1, hz1_0_0, hc2, hf2, hz2_0_0, hc3, hf3, hz3_0_0, hc4, hf4, hz4_0_0]) rfl ⟨rfl, ?_⟩
            repeat (first | with_reducible first | exact Below.refl _ _ | refine below_alloc ?_ _ | refine below_drew1 ?_ | refine pw_below_drewN ?_ _ | refine below_set ?_ (by omega) | refine below_step ?_ hb4 | refine below_step ?_ hb3 | refine below_step ?_ hb2 | refine below_step ?_ hb1)
        · have e65 : decide (r = 64) = false := decide_eq_false e64
          rw [e65]
          clear h1 h2 key cb'
          go_enter Try.func67, Try.ntmps67
          go_wp2_with (first
            | (go_at_call 81; (fail_if_success (have _ := hb3)); have _ := hb2; (with_reducible refine (ct' _).mono ?_); rintro e w3 ⟨rfl, hb3⟩; obtain ⟨hc3, hf3⟩ := bcell hb3; have hz3_0_0 : w.heap.size < w3.heap.size := (by have := hb3.size; first | omega | (simp at this; omega)))
            | (go_at_call 101; (fail_if_success (have _ := hb2)); have _ := hb1; (with_reducible refine (cl' _ (by repeat (first | with_reducible first | exact Below.refl _ _ | refine below_alloc ?_ _ | refine below_drew1 ?_ | refine pw_below_drewN ?_ _ | refine below_set ?_ (by omega) | refine below_step ?_ hb1))).mono ?_); rintro e w2 ⟨rfl, hb2⟩; obtain ⟨hc2, hf2⟩ := bcell hb2; have hz2_0_0 : w.heap.size < w2.heap.size := (by have := hb2.size; first | omega | (simp at this; omega)))
            | (go_at_call 101; (fail_if_success (have _ := hb1)); (with_reducible refine (cp' _ (by repeat (first | with_reducible first | exact Below.refl _ _ | refine below_alloc ?_ _ | refine below_drew1 ?_ | refine pw_below_drewN ?_ _ | refine below_set ?_ (by omega)))).mono ?_); rintro e w1 ⟨rfl, hb1⟩; obtain ⟨hc1, hf1⟩ := bcell hb1; have hz1_0_0 : w.heap.size < w1.heap.size := (by have := hb1.size; first | omega | (simp at this; omega))))
          refine bodyPost_ret (v := .bool false) (by simp [results, Try.results67, go_sem, hc1, hf1, hz1_0_0, hc2, hf2, hz2_0_0, hc3, hf3, hz3_0_0]) rfl ⟨rfl, ?_⟩
          repeat (first | with_reducible first | exact Below.refl _ _ | refine below_alloc ?_ _ | refine below_drew1 ?_ | refine pw_below_drewN ?_ _ | refine below_set ?_ (by omega) | refine below_step ?_ hb3 | refine below_step ?_ hb2 | refine below_step ?_ hb1)
set_option maxRecDepth 100000 in
set_option maxHeartbeats 4000000 in
theorem good_fn_s (Ap : Option Addr) (cp : Nat) (p : List Int) (r : Int) (Al : Option Addr) (cl : Nat) (lo : List Int) (Ab : Option Addr) (cb : Nat) (b : List (Int × Int)) (w : World) (hr : FnR w Ap cp p Al cl lo Ab cb b) (hp : p.length ≤ 1048576) (hl : lo.length ≤ 1048576) (hb : b.length ≤ 1048576) : Calls Try.prog 63 #[fnV Ap cp p r Al cl lo Ab cb b] w fun e w' => e = .returned (.bool (fnG p r lo b)) ∧ Below w.heap.size w w' := by
  have HR := Aside0.mk hr
  have kp := Aside0.mk hp
  have kl := Aside0.mk hl
  have kb := Aside0.mk hb
  have cp' := fun W (B : Below w.heap.size w W) => tys_s Ap cp p 6 W (Kd.C_below HR.out.p1 B) HR.out.p2 kp.out
  have cl' := fun W (B : Below w.heap.size w W) => tys_s Al cl lo 20 W (Kd.C_below HR.out.l1 B) HR.out.l2 kl.out
  have ct' := fun W => ty_s r W
  have cb' := fun W (B : Below w.heap.size w W) => ends_s Ab cb b W (Kd.C_below HR.out.b1 B) HR.out.b2 kb.out
  unfold fnG
  clear hr hp hl hb
  generalize tysM 6 p = b1 at *
  generalize tysM 20 lo = b2 at *
  generalize tyB r = b3 at *
  generalize endsM b = q at *
  obtain ⟨out, dp, ok⟩ := q
  cases ok with
  | false =>
    rw [Bool.and_false]
    clear cl' ct' cp'
    go_enter Try.func63, Try.ntmps63
    go_wp2_with (first
      | (go_at_call 96; (fail_if_success (have _ := hb1)); (with_reducible refine (cb' _ (by repeat (first | with_reducible first | exact Below.refl _ _ | refine below_alloc ?_ _ | refine below_drew1 ?_ | refine pw_below_drewN ?_ _ | refine below_set ?_ (by omega)))).mono ?_); rintro e w1 ⟨ve, rfl, _, hb1⟩; obtain ⟨hc1, hf1⟩ := bcell hb1; have hz1_0_0 : w.heap.size < w1.heap.size := (by have := hb1.size; first | omega | (simp at this; omega))))
    refine bodyPost_ret (v := .bool false) (by simp [results, Try.results63, go_sem, hc1, hf1, hz1_0_0]) rfl ⟨rfl, ?_⟩
    repeat (first | with_reducible first | exact Below.refl _ _ | refine below_alloc ?_ _ | refine below_drew1 ?_ | refine pw_below_drewN ?_ _ | refine below_set ?_ (by omega) | refine below_step ?_ hb1)
  | true =>
    rw [Bool.and_true]
    cases b1 with
    | false =>
      clear cl' ct'
      go_enter Try.func63, Try.ntmps63
      go_wp2_with (first
        | (go_at_call 97; (fail_if_success (have _ := hb2)); have _ := hb1; (with_reducible refine (cp' _ (by repeat (first | with_reducible first | exact Below.refl _ _ | refine below_alloc ?_ _ | refine below_drew1 ?_ | refine pw_below_drewN ?_ _ | refine below_set ?_ (by omega) | refine below_step ?_ hb1))).mono ?_); rintro e w2 ⟨rfl, hb2⟩; obtain ⟨hc2, hf2⟩ := bcell hb2; have hz2_0_0 : w.heap.size < w2.heap.size := (by have := hb2.size; first | omega | (simp at this; omega)))
        | (go_at_call 96; (fail_if_success (have _ := hb1)); (with_reducible refine (cb' _ (by repeat (first | with_reducible first | exact Below.refl _ _ | refine below_alloc ?_ _ | refine below_drew1 ?_ | refine pw_below_drewN ?_ _ | refine below_set ?_ (by omega)))).mono ?_); rintro e w1 ⟨ve, rfl, _, hb1⟩; obtain ⟨hc1, hf1⟩ := bcell hb1; have hz1_0_0 : w.heap.size < w1.heap.size := (by have := hb1.size; first | omega | (simp at this; omega))))
      refine bodyPost_ret (v := .bool false) (by simp [results, Try.results63, go_sem, hc1, hf1, hz1_0_0, hc2, hf2, hz2_0_0]) rfl ⟨rfl, ?_⟩
      repeat (first | with_reducible first | exact Below.refl _ _ | refine below_alloc ?_ _ | refine below_drew1 ?_ | refine pw_below_drewN ?_ _ | refine below_set ?_ (by omega) | refine below_step ?_ hb2 | refine below_step ?_ hb1)
    | true =>
      cases b2 with
      | false =>
        clear ct'
        go_enter Try.func63, Try.ntmps63
        go_wp2_with (first
          | (go_at_call 97; (fail_if_success (have _ := hb3)); have _ := hb2; (with_reducible refine (cl' _ (by repeat (first | with_reducible first | exact Below.refl _ _ | refine below_alloc ?_ _ | refine below_drew1 ?_ | refine pw_below_drewN ?_ _ | refine below_set ?_ (by omega) | refine below_step ?_ hb2 | refine below_step ?_ hb1))).mono ?_); rintro e w3 ⟨rfl, hb3⟩; obtain ⟨hc3, hf3⟩ := bcell hb3; have hz3_0_0 : w.heap.size < w3.heap.size := (by have := hb3.size; first | omega | (simp at this; omega)))
          | (go_at_call 97; (fail_if_success (have _ := hb2)); have _ := hb1; (with_reducible refine (cp' _ (by repeat (first | with_reducible first | exact Below.refl _ _ | refine below_alloc ?_ _ | refine below_drew1 ?_ | refine pw_below_drewN ?_ _ | refine below_set ?_ (by omega) | refine below_step ?_ hb1))).mono ?_); rintro e w2 ⟨rfl, hb2⟩; obtain ⟨hc2, hf2⟩ := bcell hb2; have hz2_0_0 : w.heap.size < w2.heap.size := (by have := hb2.size; first | omega | (simp at this; omega)))
          | (go_at_call 96; (fail_if_success (have _ := hb1)); (with_reducible refine (cb' _ (by repeat (first | with_reducible first | exact Below.refl _ _ | refine below_alloc ?_ _ | refine below_drew1 ?_ | refine pw_below_drewN ?_ _ | refine below_set ?_ (by omega)))).mono ?_); rintro e w1 ⟨ve, rfl, _, hb1⟩; obtain ⟨hc1, hf1⟩ := bcell hb1; have hz1_0_0 : w.heap.size < w1.heap.size := (by have := hb1.size; first | omega | (simp at this; omega))))
        refine bodyPost_ret (v := .bool false) (by simp [results, Try.results63, go_sem, hc1, hf1, hz1_0_0, hc2, hf2, hz2_0_0, hc3, hf3, hz3_0_0]) rfl ⟨rfl, ?_⟩
        repeat (first | with_reducible first | exact Below.refl _ _ | refine below_alloc ?_ _ | refine below_drew1 ?_ | refine pw_below_drewN ?_ _ | refine below_set ?_ (by omega) | refine below_step ?_ hb3 | refine below_step ?_ hb2 | refine below_step ?_ hb1)
      | true =>
        cases b3 with
        | true =>
          go_enter Try.func63, Try.ntmps63
          go_wp2_with (first
            | (go_at_call 72; (fail_if_success (have _ := hb4)); have _ := hb3; (with_reducible refine (ct' _).mono ?_); rintro e w4 ⟨rfl, hb4⟩; obtain ⟨hc4, hf4⟩ := bcell hb4; have hz4_0_0 : w.heap.size < w4.heap.size := (by have := hb4.size; first | omega | (simp at this; omega)))
            | (go_at_call 97; (fail_if_success (have _ := hb3)); have _ := hb2; (with_reducible refine (cl' _ (by repeat (first | with_reducible first | exact Below.refl _ _ | refine below_alloc ?_ _ | refine below_drew1 ?_ | refine pw_below_drewN ?_ _ | refine below_set ?_ (by omega) | refine below_step ?_ hb2 | refine below_step ?_ hb1))).mono ?_); rintro e w3 ⟨rfl, hb3⟩; obtain ⟨hc3, hf3⟩ := bcell hb3; have hz3_0_0 : w.heap.size < w3.heap.size := (by have := hb3.size; first | omega | (simp at this; omega)))
            | (go_at_call 97; (fail_if_success (have _ := hb2)); have _ := hb1; (with_reducible refine (cp' _ (by repeat (first | with_reducible first | exact Below.refl _ _ | refine below_alloc ?_ _ | refine below_drew1 ?_ | refine pw_below_drewN ?_ _ | refine below_set ?_ (by omega) | refine below_step ?_ hb1))).mono ?_); rintro e w2 ⟨rfl, hb2⟩; obtain ⟨hc2, hf2⟩ := bcell hb2; have hz2_0_0 : w.heap.size < w2.heap.size := (by have := hb2.size; first | omega | (simp at this; omega)))
            | (go_at_call 96; (fail_if_success (have _ := hb1)); (with_reducible refine (cb' _ (by repeat (first | with_reducible first | exact Below.refl _ _ | refine below_alloc ?_ _ | refine below_drew1 ?_ | refine pw_below_drewN ?_ _ | refine below_set ?_ (by omega)))).mono ?_); rintro e w1 ⟨ve, rfl, _, hb1⟩; obtain ⟨hc1, hf1⟩ := bcell hb1; have hz1_0_0 : w.heap.size < w1.heap.size := (by have := hb1.size; first | omega | (simp at this; omega))))
          refine bodyPost_ret (v := .bool true) (by simp [results, Try.results63, go_sem, hc1, hf1, hz1_0_0, hc2, hf2, hz2_0_0, hc3, hf3, hz3_0_0, hc4, hf4, hz4_0_0]) rfl ⟨rfl, ?_⟩
          repeat (first | with_reducible first | exact Below.refl _ _ | refine below_alloc ?_ _ | refine below_drew1 ?_ | refine pw_below_drewN ?_ _ | refine below_set ?_ (by omega) | refine below_step ?_ hb4 | refine below_step ?_ hb3 | refine below_step ?_ hb2 | refine below_step ?_ hb1)
        | false =>
          by_cases e64 : r = 64
          · subst e64
            go_enter Try.func63, Try.ntmps63
            go_wp2_with (first
              | (go_at_call 72; (fail_if_success (have _ := hb4)); have _ := hb3; (with_reducible refine (ct' _).mono ?_); rintro e w4 ⟨rfl, hb4⟩; obtain ⟨hc4, hf4⟩ := bcell hb4; have hz4_0_0 : w.heap.size < w4.heap.size := (by have := hb4.size; first | omega | (simp at this; omega)))
              | (go_at_call 97; (fail_if_success (have _ := hb3)); have _ := hb2; (with_reducible refine (cl' _ (by repeat (first | with_reducible first | exact Below.refl _ _ | refine below_alloc ?_ _ | refine below_drew1 ?_ | refine pw_below_drewN ?_ _ | refine below_set ?_ (by omega) | refine below_step ?_ hb2 | refine below_step ?_ hb1))).mono ?_); rintro e w3 ⟨rfl, hb3⟩; obtain ⟨hc3, hf3⟩ := bcell hb3; have hz3_0_0 : w.heap.size < w3.heap.size := (by have := hb3.size; first | omega | (simp at this; omega)))
              | (go_at_call 97; (fail_if_success (have _ := hb2)); have _ := hb1; (with_reducible refine (cp' _ (by repeat (first | with_reducible first | exact Below.refl _ _ | refine below_alloc ?_ _ | refine below_drew1 ?_ | refine pw_below_drewN ?_ _ | refine below_set ?_ (by omega) | refine below_step ?_ hb1))).mono ?_); rintro e w2 ⟨rfl, hb2⟩; obtain ⟨hc2, hf2⟩ := bcell hb2; have hz2_0_0 : w.heap.size < w2.heap.size := (by have := hb2.size; first | omega | (simp at this; omega)))
              | (go_at_call 96; (fail_if_success (have _ := hb1)); (with_reducible refine (cb' _ (by repeat (first | with_reducible first | exact Below.refl _ _ | refine below_alloc ?_ _ | refine below_drew1 ?_ | refine pw_below_drewN ?_ _ | refine below_set ?_ (by omega)))).mono ?_); rintro e w1 ⟨ve, rfl, _, hb1⟩; obtain ⟨hc1, hf1⟩ := bcell hb1; have hz1_0_0 : w.heap.size < w1.heap.size := (by have := hb1.size; first | omega | (simp at this; omega))))
            refine bodyPost_ret (v := .bool true) (by simp [results, Try.results63, go_sem, hc1, hf1, hz1_0_0, hc2, hf2, hz2_0_0, hc3, hf3, hz3_0_0, hc4, hf4, hz4_0_0]) rfl ⟨rfl, ?_⟩
            repeat (first | with_reducible first | exact Below.refl _ _ | refine below_alloc ?_ _ | refine below_drew1 ?_ | refine pw_below_drewN ?_ _ | refine below_set ?_ (by omega) | refine below_step ?_ hb4 | refine below_step ?_ hb3 | refine below_step ?_ hb2 | refine below_step ?_ hb1)
          · have e65 : decide (r = 64) = false := decide_eq_false e64
            rw [e65]
            go_enter Try.func63, Try.ntmps63
            go_wp2_with (first
              | (go_at_call 72; (fail_if_success (have _ := hb4)); have _ := hb3; (with_reducible refine (ct' _).mono ?_); rintro e w4 ⟨rfl, hb4⟩; obtain ⟨hc4, hf4⟩ := bcell hb4; have hz4_0_0 : w.heap.size < w4.heap.size := (by have := hb4.size; first | omega | (simp at this; omega)))
              | (go_at_call 97; (fail_if_success (have _ := hb3)); have _ := hb2; (with_reducible refine (cl' _ (by repeat (first | with_reducible first | exact Below.refl _ _ | refine below_alloc ?_ _ | refine below_drew1 ?_ | refine pw_below_drewN ?_ _ | refine below_set ?_ (by omega) | refine below_step ?_ hb2 | refine below_step ?_ hb1))).mono ?_); rintro e w3 ⟨rfl, hb3⟩; obtain ⟨hc3, hf3⟩ := bcell hb3; have hz3_0_0 : w.heap.size < w3.heap.size := (by have := hb3.size; first | omega | (simp at this; omega)))
              | (go_at_call 97; (fail_if_success (have _ := hb2)); have _ := hb1; (with_reducible refine (cp' _ (by repeat (first | with_reducible first | exact Below.refl _ _ | refine below_alloc ?_ _ | refine below_drew1 ?_ | refine pw_below_drewN ?_ _ | refine below_set ?_ (by omega) | refine below_step ?_ hb1))).mono ?_); rintro e w2 ⟨rfl, hb2⟩; obtain ⟨hc2, hf2⟩ := bcell hb2; have hz2_0_0 : w.heap.size < w2.heap.size := (by have := hb2.size; first | omega | (simp at this; omega)))
              | (go_at_call 96; (fail_if_success (have _ := hb1)); (with_reducible refine (cb' _ (by repeat (first | with_reducible first | exact Below.refl _ _ | refine below_alloc ?_ _ | refine below_drew1 ?_ | refine pw_below_drewN ?_ _ | refine below_set ?_ (by omega)))).mono ?_); rintro e w1 ⟨ve, rfl, _, hb1⟩; obtain ⟨hc1, hf1⟩ := bcell hb1; have hz1_0_0 : w.heap.size < w1.heap.size := (by have := hb1.size; first | omega | (simp at this; omega))))
            refine bodyPost_ret (v := .bool false) (by simp [results, Try.results63, go_sem, e64, e65, hc1, hf1, hz1_0_0, hc2, hf2, hz2_0_0, hc3, hf3, hz3_0_0, hc4, hf4, hz4_0_0]) rfl ⟨rfl, ?_⟩
            repeat (first | with_reducible first | exact Below.refl _ _ | refine below_alloc ?_ _ | refine below_drew1 ?_ | refine pw_below_drewN ?_ _ | refine below_set ?_ (by omega) | refine below_step ?_ hb4 | refine below_step ?_ hb3 | refine below_step ?_ hb2 | refine below_step ?_ hb1)
end Go.Proofs.Ytfhnffondamhdaa.OwnFn
namespace Go.Proofs.Ytfhnffondamhdaa.OwnTo
open Go Go.RowKit Go.Proofs.YtfhnffondamhdaaW.PrintWords Go.Proofs.YtfhnffondamhdaaW.PrintLast Go.Proofs.YtfhnffondamhdaaW.PrintMore Go.Proofs.Ytfhnffondamhdaa.OwnBs Go.Proofs.Ytfhnffondamhdaa.OwnKp Go.Proofs.Ytfhnffondamhdaa.OwnCode Go.Proofs.Ytfhnffondamhdaa.OwnSt Go.Proofs.Ytfhnffondamhdaa.OwnFn
set_option linter.unusedVariables false
set_option linter.unusedSimpArgs false
theorem toIntI : (Try.prog.info? 3).map (fun i => (i.zero, i.size, i.bytes)) = some (some (.int .i64 0), 1, 8) := by kernel_rfl
set_option maxRecDepth 100000 in
set_option maxHeartbeats 8000000 in
theorem toInt (A : Option Addr) (c : Nat) (l : List (Int)) (w : World) (hr : Kd.C (Kd.int .i64) w A l.length l) (hl : l.length ≤ 1048576) : Calls Try.prog 65 #[.slice A l.length c] w fun e w' => ∃ A' c', e = .returned (.slice A' l.length c') ∧ Kd.R (Kd.int .i64) 3 w' w.heap.size (fun _ => True) (.slice A' l.length c') l ∧ Below w.heap.size w w' := by
  have HR0 := Aside0.mk hr
  have HL := Aside0.mk hl
  have c2 : 0 ≤ (l.length : Int) := by omega
  clear hr hl
  go_enter Try.func65, Try.ntmps65
  go_wp2_with ((with_reducible refine gate_dst (N := 7) rfl ?_); refine Kd.R_make (Kd.int .i64) _ 3 rfl (N := 7) rfl 54 _ _ rfl (l.length : Int) rfl rfl Try.underlying54 (.int .i64 0) 8 toIntI rfl (by decide) (by omega) 0 (ok := fun _ => True) (okp := fun _ => True) rfl (fun _ hk => hk) trivial c2 (by simp only [Int.toNat_natCast]; have := HL.out; omega) (Below.refl _ _) (Nat.le_refl _) ?_; intro v1 w1 ho hb hg hn; clear hg hn)
  have H0 : Aside0 (Kd.R (Kd.int .i64) 3 w1 w.heap.size (fun _ => True) v1 (List.replicate l.length 0)) := ⟨by have := ho; simpa using this⟩
  have HB0 := Aside0.mk hb
  obtain ⟨A1, d1, e1⟩ := Kd.R_slice H0.out
  rw [List.length_replicate] at e1
  subst e1
  clear ho hb
  go_loopg [4] l.length (fun kq v4 w' => ∃ (xs : List (Int)) (x4 : Int), v4 = .int .i64 x4 ∧ Aside0 (0 ≤ x4 ∧ x4 + kq = l.length) ∧ Aside0 (xs.length = l.length ∧ ∀ j : Nat, j < x4.toNat → xs[j]? = l[j]?) ∧ Aside0 (Kd.R (Kd.int .i64) 3 w' w.heap.size (fun _ => True) (.slice A1 l.length d1) xs) ∧ Aside0 (Below w.heap.size w w'))
  case atStart => exact ⟨_, 0, rfl, ⟨by omega⟩, ⟨List.length_replicate .., fun j h => absurd h (Nat.not_lt_zero _)⟩, H0, HB0⟩
  case round =>
    clear H0 HB0
    obtain ⟨xs, x4, rfl, HI, HX, HO, HB⟩ := hrel
    cases gk with
    | zero =>
      have hd : decide (x4 < (l.length : Int)) = false := decide_eq_false (by have := HI.out; omega)
      go_wp2
      go_ret
      obtain rfl : xs = l := by
        refine List.ext_getElem? fun j => ?_
        by_cases h : j < l.length
        · exact HX.out.2 j (by have := HI.out; omega)
        · rw [List.getElem?_eq_none (by have := HX.out.1; omega), List.getElem?_eq_none (by omega)]
      exact ⟨_, _, rfl, HO.out, HB.out⟩
    | succ k1 =>
      have q1 : (0 : Int) ≤ x4 := HI.out.1
      have q2 : x4 < (l.length : Int) := by have := HI.out; omega
      have hd : decide (x4 < (l.length : Int)) = true := decide_eq_true q2
      have hil : x4.toNat < l.length := by omega
      obtain ⟨ad, e1, hx⟩ := Kd.at_int HR0.out x4 q1 q2
      cases e1
      replace hx := (HB.out.cell (World.block_lt_of_cell? w _ hx)).trans hx
      have er : rd l x4 = l[x4.toNat] := by unfold rd; rw [List.getD_eq_getElem?_getD, List.getElem?_eq_getElem hil]; rfl
      rw [er] at hx
      have HS := Aside0.mk (fun j (h : j < (x4 + 1).toNat)  => (show (xs.set x4.toNat l[x4.toNat])[j]? = l[j]? from by
        rw [List.getElem?_set]
        split
        · rename_i e; subst e; rw [if_pos (by have := HX.out.1; omega), List.getElem?_eq_getElem hil]
        · exact HX.out.2 j (by omega)))
      have HSl := Aside0.mk ((List.length_set ..).trans HX.out.1 : (xs.set x4.toNat l[x4.toNat]).length = l.length)
      have ew : IntKind.i64.wrap (x4 + 1) = x4 + 1 := by rw [IntKind.wrap_i64]; have := HL.out; omega
      obtain ⟨go, co, eo, gb, gl, cl, HG⟩ := Kd.R_form HO.out (by have := HX.out.1; omega)
      injection eo with ea en ec
      subst ea; subst ec
      have GB := Aside0.mk gb
      have GL := Aside0.mk gl
      clear en gl gb HG HX
      obtain ⟨hy, hf⟩ := Kd.R_celln 0 HO.out x4 q1 q2
      have HP := Aside0.mk (Kd.R_putg HO.out x4 l[x4.toNat]).1
      clear er
      generalize l[x4.toNat] = x at *
      go_wp2
      go_roundg k1
      case measure => omega
      case rel => exact ⟨_, x4 + 1, rfl, ⟨by have := HI.out; omega⟩, ⟨HSl.out, HS.out⟩, ⟨HP.out⟩, ⟨below_set HB.out GB.out⟩⟩
set_option maxRecDepth 100000 in
set_option maxHeartbeats 8000000 in
theorem toIn1 (x : Int × Int) (w : World) : Calls Try.prog 100 #[.agg #[.int .i64 x.1, .int .i64 x.2]] w fun e w' => e = .returned (.agg #[.int .i64 x.1, .int .i64 x.2]) ∧ Below w.heap.size w w' := by
  go_enter Try.func100, Try.ntmps100
  go_wp2
  refine bodyPost_ret (v := .agg #[.int .i64 x.1, .int .i64 x.2]) (by simp [results, Try.results100, go_sem]) rfl ⟨rfl, ?_⟩
  with_reducible repeat first | exact Below.refl _ _ | refine below_alloc ?_ _ | refine below_drew1 ?_ | refine pw_below_drewN ?_ _ | refine below_set ?_ (by first | omega | simp)
theorem toInsM (w : World) (base : Nat) (ok : Nat → Prop) (x : Int × Int) : Kd.M kI w base ok x [.int .i64 x.1, .int .i64 x.2] := ⟨[.int .i64 x.1], [.int .i64 x.2], rfl, rfl, rfl⟩
theorem toInsO {w : World} {base : Nat} {ok : Nat → Prop} {x : Int × Int} {cs : List Value} (h : Kd.M kI w base ok x cs) : cs = [.int .i64 x.1, .int .i64 x.2] := by
  obtain ⟨_, _, rfl, rfl, rfl⟩ := h
  exact rfl
theorem toInsI : (Try.prog.info? 143).map (fun i => (i.zero, i.size, i.bytes)) = some (some (.agg #[(.int .i64 0), (.int .i64 0)]), 2, 16) := by kernel_rfl
set_option maxRecDepth 100000 in
set_option maxHeartbeats 8000000 in
theorem toIns (A : Option Addr) (c : Nat) (l : List (Int × Int)) (w : World) (hr : Kd.C kI w A l.length l) (hl : l.length ≤ 1048576) : Calls Try.prog 66 #[.slice A l.length c] w fun e w' => ∃ A' c', e = .returned (.slice A' l.length c') ∧ Kd.R kI 143 w' w.heap.size (fun _ => True) (.slice A' l.length c') l ∧ Below w.heap.size w w' := by
  have HR0 := Aside0.mk hr
  have HL := Aside0.mk hl
  have c2 : 0 ≤ (l.length : Int) := by omega
  clear hr hl
  go_enter Try.func66, Try.ntmps66
  go_wp2_with ((with_reducible refine gate_dst (N := 7) rfl ?_); refine Kd.R_make kI _ 143 rfl (N := 7) rfl 60 _ _ rfl (l.length : Int) rfl rfl Try.underlying60 (.agg #[(.int .i64 0), (.int .i64 0)]) 16 toInsI rfl (by decide) (by omega) (0, 0) (ok := fun _ => True) (okp := fun _ => True) (toInsM _ _ _ (0, 0)) (fun _ hk => hk) trivial c2 (by simp only [Int.toNat_natCast]; have := HL.out; omega) (Below.refl _ _) (Nat.le_refl _) ?_; intro v1 w1 ho hb hg hn; clear hg hn)
  have H0 : Aside0 (Kd.R kI 143 w1 w.heap.size (fun _ => True) v1 (List.replicate l.length (0, 0))) := ⟨by have := ho; simpa using this⟩
  have HB0 := Aside0.mk hb
  obtain ⟨A1, d1, e1⟩ := Kd.R_slice H0.out
  rw [List.length_replicate] at e1
  subst e1
  clear ho hb
  go_loopg [4] l.length (fun kq v4 w' => ∃ (xs : List (Int × Int)) (x4 : Int), v4 = .int .i64 x4 ∧ Aside0 (0 ≤ x4 ∧ x4 + kq = l.length) ∧ Aside0 (xs.length = l.length ∧ ∀ j : Nat, j < x4.toNat → xs[j]? = l[j]?) ∧ Aside0 (Kd.R kI 143 w' w.heap.size (fun _ => True) (.slice A1 l.length d1) xs) ∧ Aside0 (Below w.heap.size w w'))
  case atStart => exact ⟨_, 0, rfl, ⟨by omega⟩, ⟨List.length_replicate .., fun j h => absurd h (Nat.not_lt_zero _)⟩, H0, HB0⟩
  case round =>
    clear H0 HB0
    obtain ⟨xs, x4, rfl, HI, HX, HO, HB⟩ := hrel
    cases gk with
    | zero =>
      have hd : decide (x4 < (l.length : Int)) = false := decide_eq_false (by have := HI.out; omega)
      go_wp2
      go_ret
      obtain rfl : xs = l := by
        refine List.ext_getElem? fun j => ?_
        by_cases h : j < l.length
        · exact HX.out.2 j (by have := HI.out; omega)
        · rw [List.getElem?_eq_none (by have := HX.out.1; omega), List.getElem?_eq_none (by omega)]
      exact ⟨_, _, rfl, HO.out, HB.out⟩
    | succ k1 =>
      have q1 : (0 : Int) ≤ x4 := HI.out.1
      have q2 : x4 < (l.length : Int) := by have := HI.out; omega
      have hd : decide (x4 < (l.length : Int)) = true := decide_eq_true q2
      have hil : x4.toNat < l.length := by omega
      obtain ⟨ad, e1, hx0, hx1⟩ := at_ins HR0.out x4.toNat hil
      subst e1
      replace hx0 := (HB.out.cell (World.block_lt_of_cell? w _ hx0)).trans hx0
      replace hx1 := (HB.out.cell (World.block_lt_of_cell? w _ hx1)).trans hx1
      have HS := Aside0.mk (fun j (h : j < (x4 + 1).toNat)  => (show (xs.set x4.toNat l[x4.toNat])[j]? = l[j]? from by
        rw [List.getElem?_set]
        split
        · rename_i e; subst e; rw [if_pos (by have := HX.out.1; omega), List.getElem?_eq_getElem hil]
        · exact HX.out.2 j (by omega)))
      have HSl := Aside0.mk ((List.length_set ..).trans HX.out.1 : (xs.set x4.toNat l[x4.toNat]).length = l.length)
      have ew : IntKind.i64.wrap (x4 + 1) = x4 + 1 := by rw [IntKind.wrap_i64]; have := HL.out; omega
      obtain ⟨go, co, eo, gb, gl, cl, HG⟩ := Kd.R_form HO.out (by have := HX.out.1; omega)
      injection eo with ea en ec
      subst ea; subst ec
      have GB := Aside0.mk gb
      have GL := Aside0.mk gl
      clear en gl gb HG HX
      generalize l[x4.toNat] = x at *
      have cg := fun W => toIn1 x W
      go_wp2_with (go_at_call 100; (with_reducible refine (cg _).mono ?_); rintro e w2 ⟨rfl, hb2⟩; have HO2 := Aside0.mk (Kd.R_below HO.out hb2); have HB2 := Aside0.mk (below_step HB.out hb2); obtain ⟨ce, hcl, hM, hcc, hfr⟩ := Kd.R_elem HO2.out (0, 0) x4 q1 q2; obtain rfl := toInsO hM; have HP := Aside0.mk (Kd.R_seg HO2.out x4 q1 q2 (seg := [.int .i64 x.1, .int .i64 x.2]) (j := 0) hcl hcc (show 2 ≤ 2 from by decide) (x' := x) (toInsM _ _ _ x) (fun _ hk => hk)).1; have hy0 := hcc 0 _ rfl; have hf0 := hfr 0; try simp only [show Kd.sz kI = 2 from rfl, Nat.add_zero] at hy0 hf0; have hy1 := hcc 1 _ rfl; have hf1 := hfr 1; try simp only [show Kd.sz kI = 2 from rfl, Nat.add_zero] at hy1 hf1; clear hcl hcc hfr hM hb2)
      go_roundg k1
      case measure => omega
      case rel => exact ⟨_, x4 + 1, rfl, ⟨by have := HI.out; omega⟩, ⟨HSl.out, HS.out⟩, ⟨HP.out⟩, ⟨below_set (below_set (HB2.out) GB.out) GB.out⟩⟩
end Go.Proofs.Ytfhnffondamhdaa.OwnTo
namespace Go.Proofs.Ytfhnffondamhdaa.OwnEq
open Go Go.RowKit Go.Proofs.YtfhnffondamhdaaW.PrintWords Go.Proofs.YtfhnffondamhdaaW.PrintLast Go.Proofs.YtfhnffondamhdaaW.PrintMore Go.Proofs.Ytfhnffondamhdaa.OwnBs Go.Proofs.Ytfhnffondamhdaa.OwnKp Go.Proofs.Ytfhnffondamhdaa.OwnCode Go.Proofs.Ytfhnffondamhdaa.OwnSt Go.Proofs.Ytfhnffondamhdaa.OwnFn
set_option linter.unusedVariables false
set_option linter.unusedSimpArgs false
theorem at_int {w : World} {A : Option Addr} {n : Nat} {l : List Int} (h : Kd.C (Kd.int .i64) w A n l) (i : Nat) (hi : i < l.length) : ∃ ad, A = some ad ∧ w.cell? (ad.add i) = some (.int .i64 l[i]) := by
  obtain ⟨h1, h2, h3⟩ := h
  obtain ⟨ad, e, h4⟩ := h3 (by omega)
  obtain ⟨c, hc, hk, hu⟩ := h4 i l[i] (List.getElem?_eq_getElem hi)
  have e0 : c = [.int .i64 l[i]] := hk
  subst e0
  refine ⟨ad, e, ?_⟩
  have h5 : w.cell? (ad.add (i * 1)) = some (.int .i64 l[i]) := hu 0 _ rfl
  rwa [Nat.mul_one] at h5
set_option maxRecDepth 100000 in
set_option maxHeartbeats 8000000 in
theorem eqInt (A : Option Addr) (c : Nat) (A' : Option Addr) (c' : Nat) (l : List Int) (w : World) (hr : Kd.C (Kd.int .i64) w A l.length l) (hr' : Kd.C (Kd.int .i64) w A' l.length l) (hl : l.length ≤ 1048576) : Calls Try.prog 70 #[.slice A l.length c, .slice A' l.length c'] w fun e w' => e = .returned (.bool true) ∧ Below w.heap.size w w' := by
  have HR := Aside0.mk hr
  have HR' := Aside0.mk hr'
  clear hr hr'
  go_enter Try.func70, Try.ntmps70
  go_wp2
  go_loopg [5] l.length (fun kq v5 w' => ∃ i : Nat, i + kq = l.length ∧ v5 = .int .i64 i ∧ Aside0 (Below w.heap.size w w'))
  case atStart => exact ⟨0, by omega, rfl, ⟨Below.refl _ _⟩⟩
  case round =>
    obtain ⟨i, hi, rfl, HB⟩ := hrel
    cases gk with
    | zero =>
      obtain rfl : i = l.length := by omega
      have hd : decide ((l.length : Int) < (l.length : Int)) = false := decide_eq_false (by omega)
      go_wp2
      go_ret
      exact ⟨rfl, HB.out⟩
    | succ k1 =>
      have hil : i < l.length := by omega
      have hia : (i : Int) < (l.length : Int) := by omega
      have hd : decide ((i : Int) < (l.length : Int)) = true := decide_eq_true (by omega)
      obtain ⟨ad, e1, hx⟩ := at_int HR.out i hil
      obtain ⟨ad', e2, hy⟩ := at_int HR'.out i hil
      subst e1; subst e2
      replace hx := (HB.out.cell (World.block_lt_of_cell? w _ hx)).trans hx
      replace hy := (HB.out.cell (World.block_lt_of_cell? w _ hy)).trans hy
      generalize l[i] = x at *
      have q1 : (0 : Int) ≤ (i : Int) := by omega
      have ew : IntKind.i64.wrap ((i : Int) + 1) = (i : Int) + 1 := by rw [IntKind.wrap_i64]; omega
      go_wp2
      go_quiet (fail)
      all_goals
        go_wp2
        go_roundg k1
        case measure => omega
        case rel => exact ⟨i + 1, by omega, by rw [Int.natCast_add]; rfl, ⟨below_step HB.out (by with_reducible repeat first | exact Below.refl _ _ | refine below_alloc ?_ _ | refine below_drew1 ?_ | refine pw_below_drewN ?_ _)⟩⟩
set_option maxRecDepth 100000 in
set_option maxHeartbeats 8000000 in
theorem eqIn1 (x0 x1 : Int) (w : World) : Calls Try.prog 106 #[.agg #[.int .i64 x0, .int .i64 x1], .agg #[.int .i64 x0, .int .i64 x1]] w fun e w' => e = .returned (.bool true) ∧ Below w.heap.size w w' := by
  go_enter Try.func106, Try.ntmps106
  go_wp2
  go_ret
  exact ⟨rfl, (by with_reducible repeat first | exact Below.refl _ _ | refine below_alloc ?_ _ | refine below_drew1 ?_ | refine pw_below_drewN ?_ _)⟩
set_option maxRecDepth 100000 in
set_option maxHeartbeats 8000000 in
theorem eqIns (A : Option Addr) (c : Nat) (A' : Option Addr) (c' : Nat) (l : List (Int × Int)) (w : World) (hr : Kd.C kI w A l.length l) (hr' : Kd.C kI w A' l.length l) (hl : l.length ≤ 1048576) : Calls Try.prog 71 #[.slice A l.length c, .slice A' l.length c'] w fun e w' => e = .returned (.bool true) ∧ Below w.heap.size w w' := by
  have HR := Aside0.mk hr
  have HR' := Aside0.mk hr'
  clear hr hr'
  go_enter Try.func71, Try.ntmps71
  go_wp2
  go_loopg [5] l.length (fun kq v5 w' => ∃ i : Nat, i + kq = l.length ∧ v5 = .int .i64 i ∧ Aside0 (Below w.heap.size w w'))
  case atStart => exact ⟨0, by omega, rfl, ⟨Below.refl _ _⟩⟩
  case round =>
    obtain ⟨i, hi, rfl, HB⟩ := hrel
    cases gk with
    | zero =>
      obtain rfl : i = l.length := by omega
      have hd : decide ((l.length : Int) < (l.length : Int)) = false := decide_eq_false (by omega)
      go_wp2
      go_ret
      exact ⟨rfl, HB.out⟩
    | succ k1 =>
      have hil : i < l.length := by omega
      have hia : (i : Int) < (l.length : Int) := by omega
      have hd : decide ((i : Int) < (l.length : Int)) = true := decide_eq_true (by omega)
      obtain ⟨ad, e1, hx0, hx1⟩ := at_ins HR.out i hil
      obtain ⟨ad', e2, hy0, hy1⟩ := at_ins HR'.out i hil
      subst e1; subst e2
      have hbl := HB.out
      replace hx0 := (hbl.cell (World.block_lt_of_cell? w _ hx0)).trans hx0
      replace hx1 := (hbl.cell (World.block_lt_of_cell? w _ hx1)).trans hx1
      replace hy0 := (hbl.cell (World.block_lt_of_cell? w _ hy0)).trans hy0
      replace hy1 := (hbl.cell (World.block_lt_of_cell? w _ hy1)).trans hy1
      have lq0 := World.block_lt_of_cell? wr _ hx0
      have lq1 := World.block_lt_of_cell? wr _ hx1
      have lq2 := World.block_lt_of_cell? wr _ hy0
      have lq3 := World.block_lt_of_cell? wr _ hy1
      clear hbl
      generalize l[i] = x at *
      obtain ⟨x0, x1⟩ := x
      simp only at hx0 hx1 hy0 hy1
      have cg := fun W => eqIn1 x0 x1 W
      have q1 : (0 : Int) ≤ (i : Int) := by omega
      have ew : IntKind.i64.wrap ((i : Int) + 1) = (i : Int) + 1 := by rw [IntKind.wrap_i64]; omega
      go_wp2
      go_region_held_law (fun w' => w'.cell? (ad.add (i * 2)) = some (.int .i64 x0) ∧ w'.cell? ⟨(ad.add (i * 2)).block, (ad.add (i * 2)).off + 1, none⟩ = some (.int .i64 x1) ∧ w'.cell? (ad'.add (i * 2)) = some (.int .i64 x0) ∧ w'.cell? ⟨(ad'.add (i * 2)).block, (ad'.add (i * 2)).off + 1, none⟩ = some (.int .i64 x1)) (refine ⟨?_, ?_, ?_, ?_⟩ <;> go_simp) (first | (go_at_call 106; (with_reducible refine (cg _).mono ?_); rintro e w2 ⟨rfl, hb2⟩; obtain ⟨hc2, hf2⟩ := bcell hb2; have j0 : w2.cell? (ad.add (i * 2)) = some (.int .i64 x0) := (by rw [hb2.cell (by first | exact lq0 | (simp; exact lq0))]; go_simp); have j1 : w2.cell? ⟨(ad.add (i * 2)).block, (ad.add (i * 2)).off + 1, none⟩ = some (.int .i64 x1) := (by rw [hb2.cell (by first | exact lq1 | (simp; exact lq1))]; go_simp); have j2 : w2.cell? (ad'.add (i * 2)) = some (.int .i64 x0) := (by rw [hb2.cell (by first | exact lq2 | (simp; exact lq2))]; go_simp); have j3 : w2.cell? ⟨(ad'.add (i * 2)).block, (ad'.add (i * 2)).off + 1, none⟩ = some (.int .i64 x1) := (by rw [hb2.cell (by first | exact lq3 | (simp; exact lq3))]; go_simp)))
      all_goals
        first | (rename_i kk; refine kk _ _ ?_) | (rename_i kk _; refine kk _ _ ?_) | skip
        go_wp2
        go_roundg k1
        case measure => omega
        case rel => exact ⟨i + 1, by omega, by rw [Int.natCast_add]; rfl, ⟨below_step HB.out (by with_reducible repeat first | exact Below.refl _ _ | refine below_alloc ?_ _ | refine below_drew1 ?_ | refine pw_below_drewN ?_ _ | refine below_step ?_ hb2)⟩⟩
set_option maxRecDepth 100000 in
set_option maxHeartbeats 8000000 in
/-- A func equals its like. -/
theorem eqFn (Ap : Option Addr) (cp : Nat) (Ap' : Option Addr) (cp' : Nat) (p : List Int) (r : Int) (Al : Option Addr) (cl : Nat) (Al' : Option Addr) (cl' : Nat) (lo : List Int) (Ab : Option Addr) (cb : Nat) (Ab' : Option Addr) (cb' : Nat) (b : List (Int × Int)) (w : World) (hr : FnR w Ap cp p Al cl lo Ab cb b) (hr' : FnR w Ap' cp' p Al' cl' lo Ab' cb' b) (hp : p.length ≤ 1048576) (hl : lo.length ≤ 1048576) (hb : b.length ≤ 1048576) : Calls Try.prog 28 #[fnV Ap cp p r Al cl lo Ab cb b, fnV Ap' cp' p r Al' cl' lo Ab' cb' b] w fun e w' => e = .returned (.bool true) ∧ Below w.heap.size w w' := by
  have c1 := fun W (B : Below w.heap.size w W) => eqInt Ap cp Ap' cp' p W (Kd.C_below hr.p1 B) (Kd.C_below hr'.p1 B) hp
  have c2 := fun W (B : Below w.heap.size w W) => eqInt Al cl Al' cl' lo W (Kd.C_below hr.l1 B) (Kd.C_below hr'.l1 B) hl
  have c3 := fun W (B : Below w.heap.size w W) => eqIns Ab cb Ab' cb' b W (Kd.C_below hr.b1 B) (Kd.C_below hr'.b1 B) hb
  clear hr hr' hp hl hb
  go_enter Try.func28, Try.ntmps28
  go_wp2_with (first | (go_at_call 71; have _ := hb2; (with_reducible refine (c3 _ (by with_reducible repeat first | exact Below.refl _ _ | refine below_alloc ?_ _ | refine below_drew1 ?_ | refine pw_below_drewN ?_ _ | refine below_step ?_ hb2 | refine below_step ?_ hb1)).mono ?_); rintro e w3 ⟨rfl, hb3⟩; obtain ⟨hc3, hf3⟩ := bcell hb3; have hz3 : w.heap.size < w3.heap.size := (by have := hb3.size; first | omega | (simp at this; omega)); have hy3 : w.heap.size + 1 < w3.heap.size := (by have := hb3.size; first | omega | (simp at this; omega))) | (go_at_call 70; have _ := hb1; (with_reducible refine (c2 _ (by with_reducible repeat first | exact Below.refl _ _ | refine below_alloc ?_ _ | refine below_drew1 ?_ | refine pw_below_drewN ?_ _ | refine below_step ?_ hb1)).mono ?_); rintro e w2 ⟨rfl, hb2⟩; obtain ⟨hc2, hf2⟩ := bcell hb2; have hz2 : w.heap.size < w2.heap.size := (by have := hb2.size; first | omega | (simp at this; omega)); have hy2 : w.heap.size + 1 < w2.heap.size := (by have := hb2.size; first | omega | (simp at this; omega))) | (go_at_call 70; (with_reducible refine (c1 _ (by with_reducible repeat first | exact Below.refl _ _ | refine below_alloc ?_ _ | refine below_drew1 ?_ | refine pw_below_drewN ?_ _)).mono ?_); rintro e w1 ⟨rfl, hb1⟩; obtain ⟨hc1, hf1⟩ := bcell hb1; have hz1 : w.heap.size < w1.heap.size := (by have := hb1.size; first | omega | (simp at this; omega)); have hy1 : w.heap.size + 1 < w1.heap.size := (by have := hb1.size; first | omega | (simp at this; omega))))
  refine bodyPost_ret (v := .bool true) (by simp [results, Try.results28, go_sem, hc1, hf1, hz1, hy1, hc2, hf2, hz2, hy2, hc3, hf3, hz3, hy3]) rfl ⟨rfl, ?_⟩
  with_reducible repeat first | exact Below.refl _ _ | refine below_alloc ?_ _ | refine below_drew1 ?_ | refine pw_below_drewN ?_ _ | refine below_step ?_ hb3 | refine below_step ?_ hb2 | refine below_step ?_ hb1
end Go.Proofs.Ytfhnffondamhdaa.OwnEq
namespace Go.Proofs.Ytfhnffondamhdaa.OwnSz
open Go Go.RowKit Go.Proofs.YtfhnffondamhdaaW.PrintWords Go.Proofs.YtfhnffondamhdaaW.PrintLast Go.Proofs.YtfhnffondamhdaaW.PrintMore Go.Proofs.Ytfhnffondamhdaa.OwnBs Go.Proofs.Ytfhnffondamhdaa.OwnKp Go.Proofs.Ytfhnffondamhdaa.OwnCode Go.Proofs.Ytfhnffondamhdaa.OwnSt Go.Proofs.Ytfhnffondamhdaa.OwnFn
set_option linter.unusedVariables false
set_option linter.unusedSimpArgs false
/-- What is left of a budget. -/
def leftM (n a : Int) : Int := if wrap64 (a - n) < 0 then -1 else wrap64 (a - n)
def leftF (p lo b a : Int) : Int := if leftM p a < 0 then -1 else if leftM lo (leftM p a) < 0 then -1 else if leftM b (leftM lo (leftM p a)) < 0 then -1 else leftM b (leftM lo (leftM p a))
set_option maxRecDepth 100000 in
set_option maxHeartbeats 8000000 in
theorem szInt (A : Option Addr) (n c : Nat) (a : Int) (w : World) : Calls Try.prog 61 #[.slice A n c, .int .i64 a] w fun e w' => e = .returned (.int .i64 (leftM n a)) ∧ Below w.heap.size w w' := by
  unfold leftM
  by_cases z : wrap64 (a - n) < 0
  · have hd : decide (wrap64 (a - n) < 0) = true := decide_eq_true z
    rw [if_pos z]
    clear z
    go_enter Try.func61, Try.ntmps61
    go_wp2
    go_ret
    exact ⟨by first | rfl | (simp; done), by with_reducible repeat first | exact Below.refl _ _ | refine below_alloc ?_ _ | refine below_drew1 ?_ | refine pw_below_drewN ?_ _⟩
  · have hd : decide (wrap64 (a - n) < 0) = false := decide_eq_false z
    rw [if_neg z]
    clear z
    go_enter Try.func61, Try.ntmps61
    go_wp2
    go_ret
    exact ⟨by first | rfl | (simp; done), by with_reducible repeat first | exact Below.refl _ _ | refine below_alloc ?_ _ | refine below_drew1 ?_ | refine pw_below_drewN ?_ _⟩
set_option maxRecDepth 100000 in
set_option maxHeartbeats 8000000 in
theorem szIns (A : Option Addr) (n c : Nat) (a : Int) (w : World) : Calls Try.prog 62 #[.slice A n c, .int .i64 a] w fun e w' => e = .returned (.int .i64 (leftM n a)) ∧ Below w.heap.size w w' := by
  unfold leftM
  by_cases z : wrap64 (a - n) < 0
  · have hd : decide (wrap64 (a - n) < 0) = true := decide_eq_true z
    rw [if_pos z]
    clear z
    go_enter Try.func62, Try.ntmps62
    go_wp2
    go_ret
    exact ⟨by first | rfl | (simp; done), by with_reducible repeat first | exact Below.refl _ _ | refine below_alloc ?_ _ | refine below_drew1 ?_ | refine pw_below_drewN ?_ _⟩
  · have hd : decide (wrap64 (a - n) < 0) = false := decide_eq_false z
    rw [if_neg z]
    clear z
    go_enter Try.func62, Try.ntmps62
    go_wp2
    go_ret
    exact ⟨by first | rfl | (simp; done), by with_reducible repeat first | exact Below.refl _ _ | refine below_alloc ?_ _ | refine below_drew1 ?_ | refine pw_below_drewN ?_ _⟩
set_option maxRecDepth 100000 in
set_option maxHeartbeats 8000000 in
theorem szFn (Ap : Option Addr) (cp : Nat) (p : List Int) (r : Int) (Al : Option Addr) (cl : Nat) (lo : List Int) (Ab : Option Addr) (cb : Nat) (b : List (Int × Int)) (a : Int) (w : World) : Calls Try.prog 24 #[fnV Ap cp p r Al cl lo Ab cb b, .int .i64 a] w fun e w' => e = .returned (.int .i64 (leftF p.length lo.length b.length a)) ∧ Below w.heap.size w w' := by
  unfold leftF
  have c1 := fun W => szInt Ap p.length cp a W
  generalize leftM p.length a = x at *
  have c2 := fun W => szInt Al lo.length cl x W
  generalize leftM lo.length x = y at *
  have c3 := fun W => szIns Ab b.length cb y W
  generalize leftM b.length y = q at *
  generalize hR : (if x < 0 then (-1 : Int) else if y < 0 then -1 else if q < 0 then -1 else q) = R
  have K : (decide (x < 0) = true ∧ R = -1) ∨ (decide (x < 0) = false ∧ decide (y < 0) = true ∧ R = -1) ∨ (decide (x < 0) = false ∧ decide (y < 0) = false ∧ decide (q < 0) = true ∧ R = -1) ∨ (decide (x < 0) = false ∧ decide (y < 0) = false ∧ decide (q < 0) = false ∧ R = q) := by
    simp only [decide_eq_true_eq, decide_eq_false_iff_not]
    omega
  clear hR
  rcases K with ⟨d1, rfl⟩ | ⟨d1, d2, rfl⟩ | ⟨d1, d2, d3, rfl⟩ | ⟨d1, d2, d3, rfl⟩
  all_goals
    go_enter Try.func24, Try.ntmps24
    go_wp2_with (first | (go_at_call 62; (with_reducible refine (c3 _).mono ?_); rintro e w3 ⟨rfl, hb3⟩; obtain ⟨hc3, hf3⟩ := bcell hb3; have hz3 : w.heap.size < w3.heap.size := (by have := hb3.size; first | omega | (simp at this; omega))) | (go_at_call 61; (with_reducible refine (c2 _).mono ?_); rintro e w2 ⟨rfl, hb2⟩; obtain ⟨hc2, hf2⟩ := bcell hb2; have hz2 : w.heap.size < w2.heap.size := (by have := hb2.size; first | omega | (simp at this; omega))) | (go_at_call 61; (with_reducible refine (c1 _).mono ?_); rintro e w1 ⟨rfl, hb1⟩; obtain ⟨hc1, hf1⟩ := bcell hb1; have hz1 : w.heap.size < w1.heap.size := (by have := hb1.size; first | omega | (simp at this; omega))))
    first
      | (refine bodyPost_ret (v := .int .i64 (-1)) (by simp [results, Try.results24, go_sem, hc1, hf1, hz1]) rfl ⟨rfl, ?_⟩; (with_reducible repeat first | exact Below.refl _ _ | refine below_alloc ?_ _ | refine below_drew1 ?_ | refine pw_below_drewN ?_ _ | refine below_step ?_ hb1); done)
      | (refine bodyPost_ret (v := .int .i64 (-1)) (by simp [results, Try.results24, go_sem, hc1, hf1, hz1, hc2, hf2, hz2]) rfl ⟨rfl, ?_⟩; (with_reducible repeat first | exact Below.refl _ _ | refine below_alloc ?_ _ | refine below_drew1 ?_ | refine pw_below_drewN ?_ _ | refine below_step ?_ hb2 | refine below_step ?_ hb1); done)
      | (refine bodyPost_ret (v := .int .i64 (-1)) (by simp [results, Try.results24, go_sem, hc1, hf1, hz1, hc2, hf2, hz2, hc3, hf3, hz3]) rfl ⟨rfl, ?_⟩; (with_reducible repeat first | exact Below.refl _ _ | refine below_alloc ?_ _ | refine below_drew1 ?_ | refine pw_below_drewN ?_ _ | refine below_step ?_ hb3 | refine below_step ?_ hb2 | refine below_step ?_ hb1); done)
      | (refine bodyPost_ret (v := .int .i64 R) (by simp [results, Try.results24, go_sem, hc1, hf1, hz1, hc2, hf2, hz2, hc3, hf3, hz3]) rfl ⟨rfl, ?_⟩; (with_reducible repeat first | exact Below.refl _ _ | refine below_alloc ?_ _ | refine below_drew1 ?_ | refine pw_below_drewN ?_ _ | refine below_step ?_ hb3 | refine below_step ?_ hb2 | refine below_step ?_ hb1); done)
end Go.Proofs.Ytfhnffondamhdaa.OwnSz
namespace Go.Proofs.Ytfhnffondamhdaa.OwnFs
open Go Go.RowKit Go.Proofs.YtfhnffondamhdaaW.PrintWords Go.Proofs.YtfhnffondamhdaaW.PrintLast Go.Proofs.YtfhnffondamhdaaW.PrintMore Go.Proofs.Ytfhnffondamhdaa.OwnBs Go.Proofs.Ytfhnffondamhdaa.OwnKp Go.Proofs.Ytfhnffondamhdaa.OwnCode Go.Proofs.Ytfhnffondamhdaa.OwnSt Go.Proofs.Ytfhnffondamhdaa.OwnFn Go.Proofs.Ytfhnffondamhdaa.OwnTo
set_option linter.unusedVariables false
set_option linter.unusedSimpArgs false
/-- A func's data. -/
abbrev Rec := List Int × Int × List Int × List (Int × Int)
/-- A func's rows, of the call's own from B on. -/
structure FnO (w : World) (B : Nat) (Ap : Option Addr) (cp : Nat) (Al : Option Addr) (cl : Nat) (Ab : Option Addr) (cb : Nat) (f : Rec) : Prop where
  r1 : Kd.R (Kd.int .i64) 3 w B (fun _ => True) (.slice Ap f.1.length cp) f.1
  r2 : Kd.R (Kd.int .i64) 3 w B (fun _ => True) (.slice Al f.2.2.1.length cl) f.2.2.1
  r3 : Kd.R kI 143 w B (fun _ => True) (.slice Ab f.2.2.2.length cb) f.2.2.2
abbrev FnRd (w : World) (Ap : Option Addr) (cp : Nat) (Al : Option Addr) (cl : Nat) (Ab : Option Addr) (cb : Nat) (f : Rec) : Prop := FnR w Ap cp f.1 Al cl f.2.2.1 Ab cb f.2.2.2
abbrev fV (Ap : Option Addr) (cp : Nat) (Al : Option Addr) (cl : Nat) (Ab : Option Addr) (cb : Nat) (f : Rec) : Value := fnV Ap cp f.1 f.2.1 Al cl f.2.2.1 Ab cb f.2.2.2
def lens (f : Rec) : Prop := f.1.length ≤ 1048576 ∧ f.2.2.1.length ≤ 1048576 ∧ f.2.2.2.length ≤ 1048576
theorem FnO.keep {w w1 : World} {B : Nat} {Ap cp Al cl Ab cb} {f : Rec} (h : FnO w B Ap cp Al cl Ab cb f) (hm : ∀ k, B ≤ k → k < w.heap.size → w1.heap[k]? = w.heap[k]?) : FnO w1 B Ap cp Al cl Ab cb f :=
  ⟨Kd.R_mono (Kd.R_step (Kd.R_bound h.r1) (fun k hk _ => hm k hk.2.1 hk.2.2.1)) (fun _ _ => trivial), Kd.R_mono (Kd.R_step (Kd.R_bound h.r2) (fun k hk _ => hm k hk.2.1 hk.2.2.1)) (fun _ _ => trivial), Kd.R_mono (Kd.R_step (Kd.R_bound h.r3) (fun k hk _ => hm k hk.2.1 hk.2.2.1)) (fun _ _ => trivial)⟩
theorem FnO.reads {w : World} {B : Nat} {Ap cp Al cl Ab cb} {f : Rec} (h : FnO w B Ap cp Al cl Ab cb f) : FnRd w Ap cp Al cl Ab cb f :=
  ⟨(Kd.R_reads' h.r1).2.2, (Kd.R_reads' h.r2).2.2, (Kd.R_reads' h.r3).2.2, (Kd.R_reads' h.r1).2.1, (Kd.R_reads' h.r2).2.1, (Kd.R_reads' h.r3).2.1⟩
/-- A row of the call's own is still there behind a call, when what was stored lies elsewhere. -/
theorem own_step {α : Type} {d : Kd α} {e : Nat} {w w' w1 : World} {base : Nat} {v : Value} {xs : List α} (h : Kd.R d e w base (fun _ => True) v xs) (hs : ∀ k, base ≤ k → k < w.heap.size → w'.heap[k]? = w.heap[k]? ∧ k < w'.heap.size) (hb : Below w'.heap.size w' w1) : Kd.R d e w1 base (fun _ => True) v xs :=
  Kd.R_mono (Kd.R_step (Kd.R_bound h) (fun k hk _ => (hb.block k (hs k hk.2.1 hk.2.2.1).2).trans (hs k hk.2.1 hk.2.2.1).1)) (fun _ _ => trivial)
set_option maxRecDepth 100000 in
set_option maxHeartbeats 8000000 in
/-- A func is copied: the copy is the call's own. -/
theorem toFnO (Ap : Option Addr) (cp : Nat) (Al : Option Addr) (cl : Nat) (Ab : Option Addr) (cb : Nat) (f : Rec) (w : World) (hr : FnRd w Ap cp Al cl Ab cb f) (hl : lens f) : Calls Try.prog 26 #[fV Ap cp Al cl Ab cb f] w fun e w' => ∃ Ap' cp' Al' cl' Ab' cb', e = .returned (fV Ap' cp' Al' cl' Ab' cb' f) ∧ FnO w' w.heap.size Ap' cp' Al' cl' Ab' cb' f ∧ Below w.heap.size w w' := by
  obtain ⟨p, r, lo, b⟩ := f
  have c1 := fun W (B : Below w.heap.size w W) => toInt Ap cp p W (Kd.C_below hr.p1 B) hl.1
  have c2 := fun W (B : Below w.heap.size w W) => toInt Al cl lo W (Kd.C_below hr.l1 B) hl.2.1
  have c3 := fun W (B : Below w.heap.size w W) => toIns Ab cb b W (Kd.C_below hr.b1 B) hl.2.2
  clear hr hl
  go_enter Try.func26, Try.ntmps26
  go_wp2_with fail
  refine (c1 _ (by repeat (first | (with_reducible exact Below.refl _ _) | (with_reducible refine below_alloc ?_ _) | (with_reducible refine below_drew1 ?_)))).mono ?_
  rintro e w2 ⟨A2, d2, rfl, C2, hb2⟩
  have e3 : ∀ (o1 o2 o3 : Obj), (((w.alloc o1).alloc o2).alloc o3).heap.size = w.heap.size + 3 := by intro o1 o2 o3; simp
  rw [e3] at C2
  have HB2 := Aside0.mk (show Below w.heap.size w w2 from below_step (by repeat (first | (with_reducible exact Below.refl _ _) | (with_reducible refine below_alloc ?_ _) | (with_reducible refine below_drew1 ?_))) hb2)
  have HC2 := Aside0.mk C2
  obtain ⟨hc2, hf2⟩ := bcell hb2
  have hz2_0 : w.heap.size < w2.heap.size := by have := hb2.size; rw [e3] at this; omega
  have hz2_1 : w.heap.size + 1 < w2.heap.size := by have := hb2.size; rw [e3] at this; omega
  have hz2_2 : w.heap.size + 1 + 1 < w2.heap.size := by have := hb2.size; rw [e3] at this; omega
  clear C2 hb2
  go_wp2_with fail
  refine (c2 _ (by have := HB2.out; repeat (first | (with_reducible exact this) | (with_reducible refine below_set ?_ (by first | omega | simp)) | (with_reducible refine below_drew1 ?_)))).mono ?_
  rintro e w3 ⟨A3, d3, rfl, C3, hb3⟩
  have HC2 := Aside0.mk (own_step HC2.out (fun k hk hlt => ⟨by (repeat (with_reducible refine Eq.trans (Below.heap_setCell _ _ _ _ (by dsimp only; omega)) ?_)); with_reducible rfl, by simpa [World.setCell] using hlt⟩) hb3)
  have HB3 := Aside0.mk (show Below w.heap.size w w3 from below_step (by have := HB2.out; repeat (first | (with_reducible exact this) | (with_reducible refine below_set ?_ (by first | omega | simp)) | (with_reducible refine below_drew1 ?_))) hb3)
  have HC3 := Aside0.mk (Kd.R_lower (base' := w.heap.size + 3) C3 (by simp [World.setCell]; omega))
  obtain ⟨hc3, hf3⟩ := bcell hb3
  have hz3_0 : w.heap.size < w3.heap.size := by have := hb3.size; simp [World.setCell] at this; omega
  have hz3_1 : w.heap.size + 1 < w3.heap.size := by have := hb3.size; simp [World.setCell] at this; omega
  have hz3_2 : w.heap.size + 1 + 1 < w3.heap.size := by have := hb3.size; simp [World.setCell] at this; omega
  clear C3 hb3
  go_wp2_with fail
  refine (c3 _ (by have := HB3.out; repeat (first | (with_reducible exact this) | (with_reducible refine below_set ?_ (by first | omega | simp)) | (with_reducible refine below_drew1 ?_)))).mono ?_
  rintro e w4 ⟨A4, d4, rfl, C4, hb4⟩
  have HC2 := Aside0.mk (own_step HC2.out (fun k hk hlt => ⟨by (repeat (with_reducible refine Eq.trans (Below.heap_setCell _ _ _ _ (by dsimp only; omega)) ?_)); with_reducible rfl, by simpa [World.setCell] using hlt⟩) hb4)
  have HC3 := Aside0.mk (own_step HC3.out (fun k hk hlt => ⟨by (repeat (with_reducible refine Eq.trans (Below.heap_setCell _ _ _ _ (by dsimp only; omega)) ?_)); with_reducible rfl, by simpa [World.setCell] using hlt⟩) hb4)
  have HB4 := Aside0.mk (show Below w.heap.size w w4 from below_step (by have := HB3.out; repeat (first | (with_reducible exact this) | (with_reducible refine below_set ?_ (by first | omega | simp)) | (with_reducible refine below_drew1 ?_))) hb4)
  have HC4 := Aside0.mk (Kd.R_lower (base' := w.heap.size + 3) C4 (by simp [World.setCell]; omega))
  obtain ⟨hc4, hf4⟩ := bcell hb4
  have hz4_0 : w.heap.size < w4.heap.size := by have := hb4.size; simp [World.setCell] at this; omega
  have hz4_1 : w.heap.size + 1 < w4.heap.size := by have := hb4.size; simp [World.setCell] at this; omega
  have hz4_2 : w.heap.size + 1 + 1 < w4.heap.size := by have := hb4.size; simp [World.setCell] at this; omega
  clear C4 hb4
  go_wp2
  refine bodyPost_ret (v := fV A2 d2 A3 d3 A4 d4 (p, r, lo, b)) (by simp [results, Try.results26, go_sem, hc2, hf2, hz2_0, hz2_1, hz2_2, hc3, hf3, hz3_0, hz3_1, hz3_2, hc4, hf4, hz4_0, hz4_1, hz4_2]) rfl ⟨A2, d2, A3, d3, A4, d4, rfl, ⟨?_, ?_, ?_⟩, ?_⟩
  · exact Kd.R_lower (own_step HC2.out (fun k hk hlt => ⟨by (repeat (with_reducible refine Eq.trans (Below.heap_setCell _ _ _ _ (by dsimp only; omega)) ?_)); with_reducible rfl, by simpa [World.setCell] using hlt⟩) (Below.refl _ _)) (by omega)
  · exact Kd.R_lower (own_step HC3.out (fun k hk hlt => ⟨by (repeat (with_reducible refine Eq.trans (Below.heap_setCell _ _ _ _ (by dsimp only; omega)) ?_)); with_reducible rfl, by simpa [World.setCell] using hlt⟩) (Below.refl _ _)) (by omega)
  · exact Kd.R_lower (own_step HC4.out (fun k hk hlt => ⟨by (repeat (with_reducible refine Eq.trans (Below.heap_setCell _ _ _ _ (by dsimp only; omega)) ?_)); with_reducible rfl, by simpa [World.setCell] using hlt⟩) (Below.refl _ _)) (by omega)
  · have := HB4.out
    repeat (first | (with_reducible exact this) | (with_reducible refine below_set ?_ (by first | omega | simp)) | (with_reducible refine below_drew1 ?_))
/-- A row of funcs that is read. -/
def FsR (w : World) (A : Option Addr) (F : List Rec) : Prop := ∀ (j : Nat) (h : j < F.length), ∃ ad Ap cp Al cl Ab cb, A = some ad ∧ w.cell? (ad.add (j * 4)) = some (.slice Ap F[j].1.length cp) ∧ w.cell? ⟨(ad.add (j * 4)).block, (ad.add (j * 4)).off + 1, none⟩ = some (.int .i64 F[j].2.1) ∧ w.cell? ⟨(ad.add (j * 4)).block, (ad.add (j * 4)).off + 2, none⟩ = some (.slice Al F[j].2.2.1.length cl) ∧ w.cell? ⟨(ad.add (j * 4)).block, (ad.add (j * 4)).off + 3, none⟩ = some (.slice Ab F[j].2.2.2.length cb) ∧ FnRd w Ap cp Al cl Ab cb F[j]
/-- .. that is the call's own from B on. -/
def FsG (w : World) (B : Nat) (A : Option Addr) (F : List Rec) : Prop := ∀ (j : Nat) (h : j < F.length), ∃ g Ap cp Al cl Ab cb, A = some ⟨g, 0, none⟩ ∧ B ≤ g ∧ w.cell? ⟨g, j * 4, none⟩ = some (.slice Ap F[j].1.length cp) ∧ w.cell? ⟨g, j * 4 + 1, none⟩ = some (.int .i64 F[j].2.1) ∧ w.cell? ⟨g, j * 4 + 2, none⟩ = some (.slice Al F[j].2.2.1.length cl) ∧ w.cell? ⟨g, j * 4 + 3, none⟩ = some (.slice Ab F[j].2.2.2.length cb) ∧ FnO w B Ap cp Al cl Ab cb F[j]
/-- .. and its form. -/
def FsT (w : World) (B : Nat) (A : Option Addr) (n : Nat) : Prop := n = 0 ∨ ∃ g cs, A = some ⟨g, 0, none⟩ ∧ B ≤ g ∧ w.heap[g]? = some (.cells cs 62 (0, 0)) ∧ n * 4 ≤ cs.size
theorem FsT.keep {w w1 : World} {B : Nat} {A : Option Addr} {n : Nat} (h : FsT w B A n) (hm : ∀ k, B ≤ k → k < w.heap.size → w1.heap[k]? = w.heap[k]?) : FsT w1 B A n := by
  rcases h with h | ⟨g, cs, e, h1, h2, h3⟩
  · exact .inl h
  · exact .inr ⟨g, cs, e, h1, (hm g h1 (blk_lt h2)).trans h2, h3⟩
theorem FsG.keep {w w1 : World} {B : Nat} {A : Option Addr} {F : List Rec} (h : FsG w B A F) (hm : ∀ k, B ≤ k → k < w.heap.size → w1.heap[k]? = w.heap[k]?) : FsG w1 B A F := by
  intro j hj
  obtain ⟨g, Ap, cp, Al, cl, Ab, cb, e, hg, x0, x1, x2, x3, hO⟩ := h j hj
  have hlt : g < w.heap.size := World.block_lt_of_cell? w ⟨g, j * 4, none⟩ x0
  have hc : ∀ q, w1.cell? ⟨g, q, none⟩ = w.cell? ⟨g, q, none⟩ := fun q => World.cell?_of_block (w := w) (hm g hg hlt)
  exact ⟨g, Ap, cp, Al, cl, Ab, cb, e, hg, (hc _).trans x0, (hc _).trans x1, (hc _).trans x2, (hc _).trans x3, hO.keep hm⟩
theorem FsG.reads {w : World} {B : Nat} {A : Option Addr} {F : List Rec} (h : FsG w B A F) : FsR w A F := by
  intro j hj
  obtain ⟨g, Ap, cp, Al, cl, Ab, cb, e, hg, x0, x1, x2, x3, hO⟩ := h j hj
  have ea : (⟨g, 0, none⟩ : Addr).add (j * 4) = ⟨g, j * 4, none⟩ := by
    simp only [Addr.add]
    split <;> simp_all
  exact ⟨⟨g, 0, none⟩, Ap, cp, Al, cl, Ab, cb, e, by rw [ea]; exact x0, by rw [ea]; exact x1, by rw [ea]; exact x2, by rw [ea]; exact x3, hO.reads⟩
theorem FnO.lower {w : World} {B B' : Nat} {Ap cp Al cl Ab cb} {f : Rec} (h : FnO w B Ap cp Al cl Ab cb f) (hb : B' ≤ B) : FnO w B' Ap cp Al cl Ab cb f := ⟨Kd.R_lower h.r1 hb, Kd.R_lower h.r2 hb, Kd.R_lower h.r3 hb⟩
theorem FsG.lower {w : World} {B B' : Nat} {A : Option Addr} {F : List Rec} (h : FsG w B A F) (hb : B' ≤ B) : FsG w B' A F := fun j hj => by
  obtain ⟨g, Ap, cp, Al, cl, Ab, cb, e, hg, x0, x1, x2, x3, hO⟩ := h j hj
  exact ⟨g, Ap, cp, Al, cl, Ab, cb, e, by omega, x0, x1, x2, x3, hO.lower hb⟩
theorem FsT.lower {w : World} {B B' : Nat} {A : Option Addr} {n : Nat} (h : FsT w B A n) (hb : B' ≤ B) : FsT w B' A n := by
  rcases h with h | ⟨g, cs, e, h1, h2⟩
  · exact .inl h
  · exact .inr ⟨g, cs, e, by omega, h2⟩
/-- The copy, as far as it has come. -/
structure FsI (w0 w : World) (g n i : Nat) (F : List Rec) : Prop where
  hg : w0.heap.size ≤ g
  row : ∃ cur, w.heap[g]? = some (.cells cur 62 (0, 0)) ∧ n * 4 ≤ cur.size
  els : ∀ (j : Nat) (hF : j < F.length), j < i → ∃ Ap cp Al cl Ab cb B, g < B ∧ w.cell? ⟨g, j * 4, none⟩ = some (.slice Ap F[j].1.length cp) ∧ w.cell? ⟨g, j * 4 + 1, none⟩ = some (.int .i64 F[j].2.1) ∧ w.cell? ⟨g, j * 4 + 2, none⟩ = some (.slice Al F[j].2.2.1.length cl) ∧ w.cell? ⟨g, j * 4 + 3, none⟩ = some (.slice Ab F[j].2.2.2.length cb) ∧ FnO w B Ap cp Al cl Ab cb F[j]
  bel : Below w0.heap.size w0 w
theorem FsI.below {w0 w w1 : World} {g n i : Nat} {F : List Rec} (h : FsI w0 w g n i F) (hb : Below w.heap.size w w1) : FsI w0 w1 g n i F := by
  obtain ⟨hg, ⟨cur, hh, hs⟩, hE, hB⟩ := h
  have hgl := blk_lt hh
  refine ⟨hg, ⟨cur, (hb.block g hgl).trans hh, hs⟩, fun j hF hj => ?_, below_step hB hb⟩
  obtain ⟨Ap, cp, Al, cl, Ab, cb, B, hgB, x0, x1, x2, x3, hO⟩ := hE j hF hj
  exact ⟨Ap, cp, Al, cl, Ab, cb, B, hgB, (hb.cell (p := ⟨g, _, none⟩) hgl).trans x0, (hb.cell (p := ⟨g, _, none⟩) hgl).trans x1, (hb.cell (p := ⟨g, _, none⟩) hgl).trans x2, (hb.cell (p := ⟨g, _, none⟩) hgl).trans x3, hO.keep (fun k _ hk => hb.block k hk)⟩
theorem cell_of {w : World} {g T : Nat} {cur : Array Value} (h : w.heap[g]? = some (.cells cur T (0, 0))) (j : Nat) (hj : j < cur.size) : (∃ u, w.cell? ⟨g, j, none⟩ = some u) ∧ w.frozen? ⟨g, j, none⟩ = false := by
  refine ⟨⟨cur[j], ?_⟩, Lib.frozen_of_heap h j⟩
  rw [Lib.cell_of_heap h]
  simp [Array.getElem?_eq_getElem hj]
theorem set_heap {w : World} {g T : Nat} {cur : Array Value} (h : w.heap[g]? = some (.cells cur T (0, 0))) (j : Nat) (u : Value) : (w.setCell ⟨g, j, none⟩ u).heap[g]? = some (.cells (cur.setIfInBounds j u) T (0, 0)) := by simp [World.setCell, Array.getElem?_modify, h]
/-- The four stores of one element. -/
def put4 (w : World) (g j : Nat) (a b c d : Value) : World := (((w.setCell ⟨g, j, none⟩ a).setCell ⟨g, j + 1, none⟩ b).setCell ⟨g, j + 2, none⟩ c).setCell ⟨g, j + 3, none⟩ d
theorem put4_heap {w : World} {g T j : Nat} {cur : Array Value} (h : w.heap[g]? = some (.cells cur T (0, 0))) (a b c d : Value) : (put4 w g j a b c d).heap[g]? = some (.cells ((((cur.setIfInBounds j a).setIfInBounds (j + 1) b).setIfInBounds (j + 2) c).setIfInBounds (j + 3) d) T (0, 0)) := set_heap (set_heap (set_heap (set_heap h j a) (j + 1) b) (j + 2) c) (j + 3) d
theorem put4_other {w : World} {g j k : Nat} (hk : k ≠ g) (a b c d : Value) : (put4 w g j a b c d).heap[k]? = w.heap[k]? := by
  unfold put4
  rw [Below.heap_setCell _ _ _ _ hk, Below.heap_setCell _ _ _ _ hk, Below.heap_setCell _ _ _ _ hk, Below.heap_setCell _ _ _ _ hk]
theorem FsI.store {w0 w : World} {g n i : Nat} {F : List Rec} (h : FsI w0 w g n i F) (hi : i < n) (hF : i < F.length) {Ap cp Al cl Ab cb} {B : Nat} (hB : g < B) (hO : FnO w B Ap cp Al cl Ab cb F[i]) : FsI w0 (put4 w g (i * 4) (.slice Ap F[i].1.length cp) (.int .i64 F[i].2.1) (.slice Al F[i].2.2.1.length cl) (.slice Ab F[i].2.2.2.length cb)) g n (i + 1) F := by
  obtain ⟨hg, ⟨cur, hh, hs⟩, hE, hBel⟩ := h
  have hp := put4_heap (j := i * 4) hh (.slice Ap F[i].1.length cp) (.int .i64 F[i].2.1) (.slice Al F[i].2.2.1.length cl) (.slice Ab F[i].2.2.2.length cb)
  refine ⟨hg, ⟨_, hp, by simpa using hs⟩, fun j hF2 hj => ?_, ?_⟩
  · have cellp : ∀ q, (put4 w g (i * 4) (.slice Ap F[i].1.length cp) (.int .i64 F[i].2.1) (.slice Al F[i].2.2.1.length cl) (.slice Ab F[i].2.2.2.length cb)).cell? ⟨g, q, none⟩ = ((((cur.setIfInBounds (i * 4) (.slice Ap F[i].1.length cp)).setIfInBounds (i * 4 + 1) (.int .i64 F[i].2.1)).setIfInBounds (i * 4 + 2) (.slice Al F[i].2.2.1.length cl)).setIfInBounds (i * 4 + 3) (.slice Ab F[i].2.2.2.length cb))[q]? := fun q => Lib.cell_of_heap hp q
    by_cases hji : j = i
    · subst hji
      refine ⟨Ap, cp, Al, cl, Ab, cb, B, hB, ?_, ?_, ?_, ?_, hO.keep (fun k hk _ => put4_other (by omega) _ _ _ _)⟩ <;> rw [cellp] <;> simp [Array.getElem?_setIfInBounds] <;> omega
    · obtain ⟨Ap', cp', Al', cl', Ab', cb', B', hB', x0, x1, x2, x3, hO'⟩ := hE j hF2 (by omega)
      rw [Lib.cell_of_heap hh] at x0 x1 x2 x3
      refine ⟨Ap', cp', Al', cl', Ab', cb', B', hB', ?_, ?_, ?_, ?_, hO'.keep (fun k hk _ => put4_other (by omega) _ _ _ _)⟩
      · rw [cellp, Array.getElem?_setIfInBounds, if_neg (by omega), Array.getElem?_setIfInBounds, if_neg (by omega), Array.getElem?_setIfInBounds, if_neg (by omega), Array.getElem?_setIfInBounds, if_neg (by omega)]; exact x0
      · rw [cellp, Array.getElem?_setIfInBounds, if_neg (by omega), Array.getElem?_setIfInBounds, if_neg (by omega), Array.getElem?_setIfInBounds, if_neg (by omega), Array.getElem?_setIfInBounds, if_neg (by omega)]; exact x1
      · rw [cellp, Array.getElem?_setIfInBounds, if_neg (by omega), Array.getElem?_setIfInBounds, if_neg (by omega), Array.getElem?_setIfInBounds, if_neg (by omega), Array.getElem?_setIfInBounds, if_neg (by omega)]; exact x2
      · rw [cellp, Array.getElem?_setIfInBounds, if_neg (by omega), Array.getElem?_setIfInBounds, if_neg (by omega), Array.getElem?_setIfInBounds, if_neg (by omega), Array.getElem?_setIfInBounds, if_neg (by omega)]; exact x3
  · exact (((hBel.setCell (p := ⟨g, _, none⟩) hg _).setCell (p := ⟨g, _, none⟩) hg _).setCell (p := ⟨g, _, none⟩) hg _).setCell (p := ⟨g, _, none⟩) hg _
theorem info_func : (Try.prog.info? 62).map (fun i => (i.zero, i.size, i.bytes)) = some (some (.agg #[(.slice none 0 0), (.int .i64 0), (.slice none 0 0), (.slice none 0 0)]), 4, 80) := by kernel_rfl
set_option maxRecDepth 100000 in
set_option maxHeartbeats 8000000 in
theorem toFs (A : Option Addr) (c : Nat) (F : List Rec) (w : World) (hr : FsR w A F) (hc : F.length ≤ c) (hl : F.length ≤ 1048576) (hf : ∀ f ∈ F, lens f) : Calls Try.prog 39 #[.slice A F.length c] w fun e w' => ∃ A' c', e = .returned (.slice A' F.length c') ∧ F.length ≤ c' ∧ FsG w' w.heap.size A' F ∧ FsT w' w.heap.size A' F.length ∧ Below w.heap.size w w' := by
  have HR := Aside0.mk hr
  have HL := Aside0.mk hf
  clear hr hf
  have hn0 : (0 : Int) ≤ (F.length : Int) := by omega
  go_enter Try.func39, Try.ntmps39
  go_wp2_with (first | ((with_reducible refine gate_dst (N := 7) rfl ?_); refine Kd.S_make PeqModule.k62 _ 62 rfl (N := 7) rfl 34 _ _ rfl (F.length : Int) rfl rfl Try.underlying34 (.agg #[(.slice none 0 0), (.int .i64 0), (.slice none 0 0), (.slice none 0 0)]) 80 info_func rfl (by decide) (by omega) PeqModule.z62 (ok := fun _ => True) (okp := fun _ => True) (PeqModule.k62_mkM _ _ _ PeqModule.z62 (Kd.R_nil _ _ _ _ _) (Kd.R_nil _ _ _ _ _) (Kd.R_nil _ _ _ _ _)) (fun _ hk => hk) trivial hn0 (by simp only [Int.toNat_natCast]; omega) (Below.refl _ _) (Nat.le_refl _) ?_; intro v1 w1 hS hb hg1 hnew; clear hg1))
  obtain ⟨ft, hR⟩ := hS
  obtain ⟨inner, hO⟩ := Kd.R_own hR
  obtain ⟨g, cap, cur, rfl, hg, hh, hnc, _, hcs, _⟩ : ∃ g cap cur, v1 = .slice (some ⟨g, 0, none⟩) F.length cap ∧ w.heap.size ≤ g ∧ w1.heap[g]? = some (.cells cur 62 (0, 0)) ∧ F.length ≤ cap ∧ cap ≤ maxLen ∧ cur.size = cap * 4 ∧ cur.toList.take (F.length * 4) = inner := by
    have hz : ((List.replicate (F.length : Int).toNat PeqModule.z62).zipIdx).length = F.length := by simp
    rw [hz] at hO
    rcases hO.2 with ⟨e, _⟩ | h
    · obtain ⟨b, hb1, _⟩ := hnew
      rw [e] at hb1
      cases hb1
    · exact h
  have H0 : Aside0 (FsI w w1 g F.length 0 F) := ⟨⟨hg, ⟨cur, hh, by omega⟩, fun j _ h => by omega, hb⟩⟩
  clear hR hO hh hcs hb hnew hn0
  go_loopg [4] F.length (fun kq v4 w' => ∃ i : Nat, i + kq = F.length ∧ v4 = .int .i64 i ∧ Aside0 (FsI w w' g F.length i F))
  case atStart => exact ⟨0, by omega, rfl, H0⟩
  case round =>
    clear H0
    obtain ⟨i, hi, rfl, HQ⟩ := hrel
    cases gk with
    | zero =>
      obtain rfl : i = F.length := by omega
      have hd : decide ((F.length : Int) < (F.length : Int)) = false := decide_eq_false (by omega)
      go_wp2
      go_ret
      refine ⟨_, _, rfl, hnc, fun j hj => ?_, by obtain ⟨cu, h1, h2⟩ := HQ.out.row; exact .inr ⟨g, cu, rfl, HQ.out.hg, h1, h2⟩, HQ.out.bel⟩
      obtain ⟨Ap, cp, Al, cl, Ab, cb, B, hgB, x0, x1, x2, x3, hO⟩ := HQ.out.els j hj hj
      exact ⟨g, Ap, cp, Al, cl, Ab, cb, rfl, HQ.out.hg, x0, x1, x2, x3, hO.lower (by have := HQ.out.hg; omega)⟩
    | succ k1 =>
      have hil : i < F.length := by omega
      have hd : decide ((i : Int) < (F.length : Int)) = true := decide_eq_true (by omega)
      obtain ⟨ad, Ap, cp, Al, cl, Ab, cb, e, hx0, hx1, hx2, hx3, hRd⟩ := HR.out i hil
      subst e
      have hbl := HQ.out.bel
      replace hx0 := (hbl.cell (World.block_lt_of_cell? w _ hx0)).trans hx0
      replace hx1 := (hbl.cell (World.block_lt_of_cell? w _ hx1)).trans hx1
      replace hx2 := (hbl.cell (World.block_lt_of_cell? w _ hx2)).trans hx2
      replace hx3 := (hbl.cell (World.block_lt_of_cell? w _ hx3)).trans hx3
      have HRd := Aside0.mk (FnR.below hRd hbl)
      have HLi := Aside0.mk (HL.out F[i] (List.getElem_mem hil))
      have hgw : Aside0 (g < wr.heap.size) := ⟨by obtain ⟨cu, h, _⟩ := HQ.out.row; exact blk_lt h⟩
      have HST := Aside0.mk (fun (w2 : World) (h : FsI w w2 g F.length i F) (Ap' : Option Addr) (cp' : Nat) (Al' : Option Addr) (cl' : Nat) (Ab' : Option Addr) (cb' : Nat) (B : Nat) (hB : g < B) (hO : FnO w2 B Ap' cp' Al' cl' Ab' cb' F[i]) => FsI.store h hil hil hB hO)
      clear hRd hbl
      generalize F[i] = f at *
      have ct := fun W Ap cp Al cl Ab cb h1 h2 => toFnO Ap cp Al cl Ab cb f W h1 h2
      obtain ⟨p, r, lo, b⟩ := f
      have q1 : (0 : Int) ≤ (i : Int) := by omega
      have q2 : (i : Int) < (F.length : Int) := by omega
      go_wp2_with (go_at_call 26; (with_reducible refine (ct _ Ap cp Al cl Ab cb HRd.out HLi.out).mono ?_); rintro e w2 ⟨Ap', cp', Al', cl', Ab', cb', rfl, hO2, hb2⟩; have HI2 := Aside0.mk (HQ.out.below hb2); obtain ⟨cu2, hh2, hs2⟩ := HI2.out.row; obtain ⟨⟨u0, y0⟩, f0⟩ := cell_of hh2 (i * 4) (by omega); obtain ⟨⟨u1, y1⟩, f1⟩ := cell_of hh2 (i * 4 + 1) (by omega); obtain ⟨⟨u2, y2⟩, f2⟩ := cell_of hh2 (i * 4 + 2) (by omega); obtain ⟨⟨u3, y3⟩, f3⟩ := cell_of hh2 (i * 4 + 3) (by omega); have HN := Aside0.mk (HST.out w2 HI2.out Ap' cp' Al' cl' Ab' cb' _ hgw.out hO2); clear hh2 hO2 hb2)
      go_roundg k1
      case measure => omega
      case rel => exact ⟨i + 1, by omega, by rw [Int.natCast_add]; rfl, HN⟩
end Go.Proofs.Ytfhnffondamhdaa.OwnFs
namespace Go.Proofs.Ytfhnffondamhdaa.OwnMd
open Go Go.RowKit Go.Proofs.YtfhnffondamhdaaW.PrintWords Go.Proofs.YtfhnffondamhdaaW.PrintLast Go.Proofs.YtfhnffondamhdaaW.PrintMore Go.Proofs.Ytfhnffondamhdaa.OwnBs Go.Proofs.Ytfhnffondamhdaa.OwnKp Go.Proofs.Ytfhnffondamhdaa.OwnCode Go.Proofs.Ytfhnffondamhdaa.OwnSt Go.Proofs.Ytfhnffondamhdaa.OwnFn Go.Proofs.Ytfhnffondamhdaa.OwnFs
set_option linter.unusedVariables false
set_option linter.unusedSimpArgs false
/-- A global: its type, whether it is fixed, its bits. -/
abbrev Glo := Int × Bool × Int
abbrev kG : Kd Glo := Kd.pair (Kd.int .i64) (Kd.pair Kd.bool (Kd.int .u64))
theorem at_gl {w : World} {A : Option Addr} {n : Nat} {l : List Glo} (h : Kd.C kG w A n l) (i : Nat) (hi : i < l.length) : ∃ ad, A = some ad ∧ w.cell? (ad.add (i * 3)) = some (.int .i64 l[i].1) ∧ w.cell? ⟨(ad.add (i * 3)).block, (ad.add (i * 3)).off + 1, none⟩ = some (.bool l[i].2.1) ∧ w.cell? ⟨(ad.add (i * 3)).block, (ad.add (i * 3)).off + 2, none⟩ = some (.int .u64 l[i].2.2) := by
  obtain ⟨h1, h2, h3⟩ := h
  obtain ⟨ad, e, h4⟩ := h3 (by omega)
  obtain ⟨c, hc, hk, hu⟩ := h4 i l[i] (List.getElem?_eq_getElem hi)
  obtain ⟨c0, c1, rfl, k0, k1⟩ := hk
  obtain ⟨d0, d1, rfl, k2, k3⟩ := k1
  have e0 : c0 = [.int .i64 l[i].1] := k0
  have e1 : d0 = [.bool l[i].2.1] := k2
  have e2 : d1 = [.int .u64 l[i].2.2] := k3
  subst e0; subst e1; subst e2
  refine ⟨ad, e, ?_, ?_, ?_⟩
  · exact hu 0 _ rfl
  · rw [← add_field ad (i * 3) 1 (by decide)]
    exact hu 1 _ rfl
  · rw [← add_field ad (i * 3) 2 (by decide)]
    exact hu 2 _ rfl
set_option maxRecDepth 100000 in
set_option maxHeartbeats 8000000 in
theorem toGl1 (x : Glo) (w : World) : Calls Try.prog 79 #[.agg #[.int .i64 x.1, .bool x.2.1, .int .u64 x.2.2]] w fun e w' => e = .returned (.agg #[.int .i64 x.1, .bool x.2.1, .int .u64 x.2.2]) ∧ Below w.heap.size w w' := by
  go_enter Try.func79, Try.ntmps79
  go_wp2
  refine bodyPost_ret (v := .agg #[.int .i64 x.1, .bool x.2.1, .int .u64 x.2.2]) (by simp [results, Try.results79, go_sem]) rfl ⟨rfl, ?_⟩
  with_reducible repeat first | exact Below.refl _ _ | refine below_alloc ?_ _ | refine below_drew1 ?_ | refine pw_below_drewN ?_ _ | refine below_set ?_ (by first | omega | simp)
theorem toGl0M (w : World) (base : Nat) (ok : Nat → Prop) (x : Glo) : Kd.M kG w base ok x [.int .i64 x.1, .bool x.2.1, .int .u64 x.2.2] := ⟨[.int .i64 x.1], [.bool x.2.1, .int .u64 x.2.2], rfl, rfl, ⟨[.bool x.2.1], [.int .u64 x.2.2], rfl, rfl, rfl⟩⟩
theorem toGl0O {w : World} {base : Nat} {ok : Nat → Prop} {x : Glo} {cs : List Value} (h : Kd.M kG w base ok x cs) : cs = [.int .i64 x.1, .bool x.2.1, .int .u64 x.2.2] := by
  obtain ⟨_, _, rfl, rfl, ⟨_, _, rfl, rfl, rfl⟩⟩ := h
  exact rfl
theorem toGl0I : (Try.prog.info? 79).map (fun i => (i.zero, i.size, i.bytes)) = some (some (.agg #[(.int .i64 0), (.bool false), (.int .u64 0)]), 3, 24) := by kernel_rfl
set_option maxRecDepth 100000 in
set_option maxHeartbeats 8000000 in
theorem toGl0 (A : Option Addr) (c : Nat) (l : List (Glo)) (w : World) (hr : Kd.C kG w A l.length l) (hl : l.length ≤ 1048576) : Calls Try.prog 40 #[.slice A l.length c] w fun e w' => ∃ A' c', e = .returned (.slice A' l.length c') ∧ Kd.R kG 79 w' w.heap.size (fun _ => True) (.slice A' l.length c') l ∧ Below w.heap.size w w' := by
  have HR0 := Aside0.mk hr
  have HL := Aside0.mk hl
  have c2 : 0 ≤ (l.length : Int) := by omega
  clear hr hl
  go_enter Try.func40, Try.ntmps40
  go_wp2_with ((with_reducible refine gate_dst (N := 7) rfl ?_); refine Kd.R_make kG _ 79 rfl (N := 7) rfl 35 _ _ rfl (l.length : Int) rfl rfl Try.underlying35 (.agg #[(.int .i64 0), (.bool false), (.int .u64 0)]) 24 toGl0I rfl (by decide) (by omega) (0, false, 0) (ok := fun _ => True) (okp := fun _ => True) (toGl0M _ _ _ (0, false, 0)) (fun _ hk => hk) trivial c2 (by simp only [Int.toNat_natCast]; have := HL.out; omega) (Below.refl _ _) (Nat.le_refl _) ?_; intro v1 w1 ho hb hg hn; clear hg hn)
  have H0 : Aside0 (Kd.R kG 79 w1 w.heap.size (fun _ => True) v1 (List.replicate l.length (0, false, 0))) := ⟨by have := ho; simpa using this⟩
  have HB0 := Aside0.mk hb
  obtain ⟨A1, d1, e1⟩ := Kd.R_slice H0.out
  rw [List.length_replicate] at e1
  subst e1
  clear ho hb
  go_loopg [4] l.length (fun kq v4 w' => ∃ (xs : List (Glo)) (x4 : Int), v4 = .int .i64 x4 ∧ Aside0 (0 ≤ x4 ∧ x4 + kq = l.length) ∧ Aside0 (xs.length = l.length ∧ ∀ j : Nat, j < x4.toNat → xs[j]? = l[j]?) ∧ Aside0 (Kd.R kG 79 w' w.heap.size (fun _ => True) (.slice A1 l.length d1) xs) ∧ Aside0 (Below w.heap.size w w'))
  case atStart => exact ⟨_, 0, rfl, ⟨by omega⟩, ⟨List.length_replicate .., fun j h => absurd h (Nat.not_lt_zero _)⟩, H0, HB0⟩
  case round =>
    clear H0 HB0
    obtain ⟨xs, x4, rfl, HI, HX, HO, HB⟩ := hrel
    cases gk with
    | zero =>
      have hd : decide (x4 < (l.length : Int)) = false := decide_eq_false (by have := HI.out; omega)
      go_wp2
      go_ret
      obtain rfl : xs = l := by
        refine List.ext_getElem? fun j => ?_
        by_cases h : j < l.length
        · exact HX.out.2 j (by have := HI.out; omega)
        · rw [List.getElem?_eq_none (by have := HX.out.1; omega), List.getElem?_eq_none (by omega)]
      exact ⟨_, _, rfl, HO.out, HB.out⟩
    | succ k1 =>
      have q1 : (0 : Int) ≤ x4 := HI.out.1
      have q2 : x4 < (l.length : Int) := by have := HI.out; omega
      have hd : decide (x4 < (l.length : Int)) = true := decide_eq_true q2
      have hil : x4.toNat < l.length := by omega
      obtain ⟨ad, e1, hx0, hx1, hx2⟩ := at_gl HR0.out x4.toNat hil
      subst e1
      replace hx0 := (HB.out.cell (World.block_lt_of_cell? w _ hx0)).trans hx0
      replace hx1 := (HB.out.cell (World.block_lt_of_cell? w _ hx1)).trans hx1
      replace hx2 := (HB.out.cell (World.block_lt_of_cell? w _ hx2)).trans hx2
      have HS := Aside0.mk (fun j (h : j < (x4 + 1).toNat)  => (show (xs.set x4.toNat l[x4.toNat])[j]? = l[j]? from by
        rw [List.getElem?_set]
        split
        · rename_i e; subst e; rw [if_pos (by have := HX.out.1; omega), List.getElem?_eq_getElem hil]
        · exact HX.out.2 j (by omega)))
      have HSl := Aside0.mk ((List.length_set ..).trans HX.out.1 : (xs.set x4.toNat l[x4.toNat]).length = l.length)
      have ew : IntKind.i64.wrap (x4 + 1) = x4 + 1 := by rw [IntKind.wrap_i64]; have := HL.out; omega
      obtain ⟨go, co, eo, gb, gl, cl, HG⟩ := Kd.R_form HO.out (by have := HX.out.1; omega)
      injection eo with ea en ec
      subst ea; subst ec
      have GB := Aside0.mk gb
      have GL := Aside0.mk gl
      clear en gl gb HG HX
      generalize l[x4.toNat] = x at *
      have cg := fun W => toGl1 x W
      go_wp2_with (go_at_call 79; (with_reducible refine (cg _).mono ?_); rintro e w2 ⟨rfl, hb2⟩; have HO2 := Aside0.mk (Kd.R_below HO.out hb2); have HB2 := Aside0.mk (below_step HB.out hb2); obtain ⟨ce, hcl, hM, hcc, hfr⟩ := Kd.R_elem HO2.out (0, false, 0) x4 q1 q2; obtain rfl := toGl0O hM; have HP := Aside0.mk (Kd.R_seg HO2.out x4 q1 q2 (seg := [.int .i64 x.1, .bool x.2.1, .int .u64 x.2.2]) (j := 0) hcl hcc (show 3 ≤ 3 from by decide) (x' := x) (toGl0M _ _ _ x) (fun _ hk => hk)).1; have hy0 := hcc 0 _ rfl; have hf0 := hfr 0; try simp only [show Kd.sz kG = 3 from rfl, Nat.add_zero] at hy0 hf0; have hy1 := hcc 1 _ rfl; have hf1 := hfr 1; try simp only [show Kd.sz kG = 3 from rfl, Nat.add_zero] at hy1 hf1; have hy2 := hcc 2 _ rfl; have hf2 := hfr 2; try simp only [show Kd.sz kG = 3 from rfl, Nat.add_zero] at hy2 hf2; clear hcl hcc hfr hM hb2)
      go_roundg k1
      case measure => omega
      case rel => exact ⟨_, x4 + 1, rfl, ⟨by have := HI.out; omega⟩, ⟨HSl.out, HS.out⟩, ⟨HP.out⟩, ⟨below_set (below_set (below_set (HB2.out) GB.out) GB.out) GB.out⟩⟩
theorem toGl (A : Option Addr) (c : Nat) (l : List Glo) (w : World) (hr : Kd.C kG w A l.length l) (hl : l.length ≤ 1048576) : Calls Try.prog 40 #[.slice A l.length c] w fun e w' => ∃ A' c', e = .returned (.slice A' l.length c') ∧ l.length ≤ c' ∧ Kd.R kG 79 w' w.heap.size (fun _ => True) (.slice A' l.length c') l ∧ Below w.heap.size w w' :=
  (toGl0 A c l w hr hl).mono fun e w' ⟨A', c', he, hR, hb⟩ => ⟨A', c', he, (Kd.R_reads' hR).2.1, hR, hb⟩
theorem gl_reads {w : World} {B : Nat} {A : Option Addr} {c : Nat} {l : List Glo} (hR : Kd.R kG 79 w B (fun _ => True) (.slice A l.length c) l) : Kd.C kG w A l.length l := (Kd.R_reads' hR).2.2
theorem FsR.below {w w1 : World} {A : Option Addr} {F : List Rec} (h : FsR w A F) (hb : Below w.heap.size w w1) : FsR w1 A F := by
  intro j hj
  obtain ⟨ad, Ap, cp, Al, cl, Ab, cb, e, x0, x1, x2, x3, hR⟩ := h j hj
  exact ⟨ad, Ap, cp, Al, cl, Ab, cb, e, (hb.cell (World.block_lt_of_cell? w _ x0)).trans x0, (hb.cell (World.block_lt_of_cell? w _ x1)).trans x1, (hb.cell (World.block_lt_of_cell? w _ x2)).trans x2, (hb.cell (World.block_lt_of_cell? w _ x3)).trans x3, FnR.below hR hb⟩
/-- A module as a value. -/
abbrev mdV (Af : Option Addr) (cf : Nat) (F : List Rec) (Ag : Option Addr) (cg : Nat) (G : List Glo) (mem : Bool) (pages most start : Int) : Value := .agg #[.slice Af F.length cf, .slice Ag G.length cg, .bool mem, .int .i64 pages, .int .i64 most, .int .i64 start]
/-- A module's rows. -/
structure MdR (w : World) (Af : Option Addr) (cf : Nat) (F : List Rec) (Ag : Option Addr) (cg : Nat) (G : List Glo) : Prop where
  f1 : FsR w Af F
  f2 : F.length ≤ cf
  g1 : Kd.C kG w Ag G.length G
  g2 : G.length ≤ cg
theorem MdR.below {w w1 : World} {Af cf F Ag cg G} (h : MdR w Af cf F Ag cg G) (hb : Below w.heap.size w w1) : MdR w1 Af cf F Ag cg G := ⟨FsR.below h.f1 hb, h.f2, Kd.C_below h.g1 hb, h.g2⟩
end Go.Proofs.Ytfhnffondamhdaa.OwnMd
namespace Go.Proofs.Ytfhnffondamhdaa.OwnMdW
open Go Go.RowKit Go.Proofs.YtfhnffondamhdaaW.PrintWords Go.Proofs.YtfhnffondamhdaaW.PrintLast Go.Proofs.YtfhnffondamhdaaW.PrintMore Go.Proofs.Ytfhnffondamhdaa.OwnBs Go.Proofs.Ytfhnffondamhdaa.OwnKp Go.Proofs.Ytfhnffondamhdaa.OwnCode Go.Proofs.Ytfhnffondamhdaa.OwnSt Go.Proofs.Ytfhnffondamhdaa.OwnFn Go.Proofs.Ytfhnffondamhdaa.OwnFs Go.Proofs.Ytfhnffondamhdaa.OwnMd
set_option linter.unusedVariables false
set_option linter.unusedSimpArgs false
set_option maxRecDepth 100000 in
set_option maxHeartbeats 8000000 in
/-- A module is copied: the copy is the call's own. -/
theorem toMdO (Af : Option Addr) (cf : Nat) (F : List Rec) (Ag : Option Addr) (cg : Nat) (G : List Glo) (mem : Bool) (pages most start : Int) (w : World) (hr : MdR w Af cf F Ag cg G) (hF : F.length ≤ 1048576) (hf : ∀ f ∈ F, lens f) (hG : G.length ≤ 1048576) : Calls Try.prog 12 #[mdV Af cf F Ag cg G mem pages most start] w fun e w' => ∃ Af' cf' Ag' cg', e = .returned (mdV Af' cf' F Ag' cg' G mem pages most start) ∧ FsG w' w.heap.size Af' F ∧ FsT w' w.heap.size Af' F.length ∧ F.length ≤ cf' ∧ Kd.R kG 79 w' w.heap.size (fun _ => True) (.slice Ag' G.length cg') G ∧ G.length ≤ cg' ∧ Below w.heap.size w w' := by
  have HR := Aside0.mk hr
  have HL := Aside0.mk hf
  have c1 := fun W (B : Below w.heap.size w W) => toFs Af cf F W (FsR.below HR.out.f1 B) HR.out.f2 hF HL.out
  have c2 := fun W (B : Below w.heap.size w W) => toGl Ag cg G W (Kd.C_below HR.out.g1 B) hG
  clear hr hf
  go_enter Try.func12, Try.ntmps12
  go_wp2_with fail
  refine (c1 _ (by repeat (first | (with_reducible exact Below.refl _ _) | (with_reducible refine below_alloc ?_ _) | (with_reducible refine below_drew1 ?_)))).mono ?_
  rintro e w2 ⟨A2, d2, rfl, k2, C2, T2, hb2⟩
  have hB2 : Below w.heap.size w w2 := by repeat (first | (with_reducible exact Below.refl _ _) | (with_reducible refine below_step ?_ hb2) | (with_reducible refine below_alloc ?_ _) | (with_reducible refine below_drew1 ?_))
  have HC2 := Aside0.mk (And.intro C2 T2)
  have HB2 := Aside0.mk hB2
  obtain ⟨hc2, hf2⟩ := bcell hb2
  have hz2_0 : w.heap.size < w2.heap.size := by have := hb2.size; simp at this; omega
  have hz2_1 : w.heap.size + 1 < w2.heap.size := by have := hb2.size; simp at this; omega
  have hz2_2 : w.heap.size + 1 + 1 < w2.heap.size := by have := hb2.size; simp at this; omega
  clear C2 T2 hB2 hb2
  go_wp2_with fail
  refine (c2 _ (by have := HB2.out; repeat (first | (with_reducible exact this) | (with_reducible refine below_set ?_ (by first | omega | simp)) | (with_reducible refine below_drew1 ?_)))).mono ?_
  rintro e w3 ⟨A3, d3, rfl, k3, C3, hb3⟩
  have hB3 : Below w.heap.size w w3 := by
    have := HB2.out
    repeat (first | (with_reducible exact this) | (with_reducible refine below_step ?_ hb3) | (with_reducible refine below_set ?_ (by first | omega | simp)) | (with_reducible refine below_drew1 ?_))
  have HC3 := Aside0.mk C3
  have HB3 := Aside0.mk hB3
  have HC2' : Aside0 (FsG w3 (w.heap.size + 3) A2 F ∧ FsT w3 (w.heap.size + 3) A2 F.length) := ⟨by
    have h := HC2.out
    have e : ∀ (o1 o2 o3 : Obj), (((w.alloc o1).alloc o2).alloc o3).heap.size = w.heap.size + 3 := by intro o1 o2 o3; simp
    rw [e] at h
    have hm : ∀ k, w.heap.size + 3 ≤ k → k < w2.heap.size → w3.heap[k]? = w2.heap[k]? := fun k hk hlt => by
      rw [hb3.block k (by simpa [World.setCell] using hlt), Below.heap_setCell _ _ _ _ (by show k ≠ w.heap.size + 1 + 1; omega)]
    exact ⟨h.1.keep hm, h.2.keep hm⟩⟩
  obtain ⟨hc3, hf3⟩ := bcell hb3
  have hz3_0 : w.heap.size < w3.heap.size := by have := hb3.size; simp at this; omega
  have hz3_1 : w.heap.size + 1 < w3.heap.size := by have := hb3.size; simp at this; omega
  have hz3_2 : w.heap.size + 1 + 1 < w3.heap.size := by have := hb3.size; simp at this; omega
  clear C3 hB3 hb3
  go_wp2
  refine bodyPost_ret (v := mdV A2 d2 F A3 d3 G mem pages most start) (by simp [results, Try.results12, go_sem, hc2, hf2, hc3, hf3, hz2_0, hz2_1, hz2_2, hz3_0, hz3_1, hz3_2]) rfl ⟨A2, d2, A3, d3, rfl, FsG.lower (FsG.keep HC2'.out.1 (fun k hk _ => ?_)) (by omega), FsT.lower (FsT.keep HC2'.out.2 (fun k hk _ => ?_)) (by omega), k2, Kd.R_lower (base' := w.heap.size) (Kd.R_mono (Kd.R_step (Kd.R_bound HC3.out) (fun k hk _ => ?_)) (fun _ _ => trivial)) (by have := hz3_2; simp [World.setCell]; omega), k3, ?_⟩
  · iterate 11 (with_reducible refine Eq.trans (Below.heap_setCell _ _ _ _ ?_) ?_; (dsimp only; omega))
    with_reducible rfl
  · iterate 11 (with_reducible refine Eq.trans (Below.heap_setCell _ _ _ _ ?_) ?_; (dsimp only; omega))
    with_reducible rfl
  · have hk2 := hk.2.1
    have hk3 : w.heap.size + 1 + 1 < k := by
      have : (w2.setCell ⟨w.heap.size + 1 + 1, 0, none⟩ (Value.slice A2 F.length d2)).heap.size = w2.heap.size := by simp [World.setCell]
      omega
    iterate 11 (with_reducible refine Eq.trans (Below.heap_setCell _ _ _ _ ?_) ?_; (dsimp only; omega))
    with_reducible rfl
  · have := HB3.out
    repeat (first | (with_reducible exact this) | (with_reducible refine below_set ?_ (by first | omega | simp)))
/-- .. and reads like it. -/
theorem toMd (Af : Option Addr) (cf : Nat) (F : List Rec) (Ag : Option Addr) (cg : Nat) (G : List Glo) (mem : Bool) (pages most start : Int) (w : World) (hr : MdR w Af cf F Ag cg G) (hF : F.length ≤ 1048576) (hf : ∀ f ∈ F, lens f) (hG : G.length ≤ 1048576) : Calls Try.prog 12 #[mdV Af cf F Ag cg G mem pages most start] w fun e w' => ∃ Af' cf' Ag' cg', e = .returned (mdV Af' cf' F Ag' cg' G mem pages most start) ∧ MdR w' Af' cf' F Ag' cg' G ∧ Below w.heap.size w w' :=
  (toMdO Af cf F Ag cg G mem pages most start w hr hF hf hG).mono fun e w' ⟨A1, c1, A2, c2, he, h1, _, h2, h3, h4, hb⟩ => ⟨A1, c1, A2, c2, he, ⟨h1.reads, h2, gl_reads h3, h4⟩, hb⟩
end Go.Proofs.Ytfhnffondamhdaa.OwnMdW
namespace Go.Proofs.Ytfhnffondamhdaa.OwnMdQ
open Go Go.RowKit Go.Proofs.YtfhnffondamhdaaW.PrintWords Go.Proofs.YtfhnffondamhdaaW.PrintLast Go.Proofs.YtfhnffondamhdaaW.PrintMore Go.Proofs.Ytfhnffondamhdaa.OwnBs Go.Proofs.Ytfhnffondamhdaa.OwnKp Go.Proofs.Ytfhnffondamhdaa.OwnCode Go.Proofs.Ytfhnffondamhdaa.OwnSt Go.Proofs.Ytfhnffondamhdaa.OwnFn Go.Proofs.Ytfhnffondamhdaa.OwnSz Go.Proofs.Ytfhnffondamhdaa.OwnEq Go.Proofs.Ytfhnffondamhdaa.OwnFs Go.Proofs.Ytfhnffondamhdaa.OwnMd Go.Proofs.Ytfhnffondamhdaa.OwnMdW
set_option linter.unusedVariables false
set_option linter.unusedSimpArgs false
/-- What a func leaves of a budget. -/
def leftR (f : Rec) (a : Int) : Int := leftF f.1.length f.2.2.1.length f.2.2.2.length a
def leftL : List Rec → Int → Int
  | [], a => a
  | f :: F, a => if leftR f a < 0 then -1 else leftL F (leftR f a)
def leftFs (F : List Rec) (a : Int) : Int := if a - F.length < 0 then -1 else leftL F (a - F.length)
set_option maxRecDepth 100000 in
set_option maxHeartbeats 8000000 in
theorem szFs (A : Option Addr) (c : Nat) (F : List Rec) (a : Int) (w : World) (hr : FsR w A F) (h0 : 0 ≤ a) (h1 : a ≤ 1048576) (hl : F.length ≤ 9223372036854775807) : Calls Try.prog 33 #[.slice A F.length c, .int .i64 a] w fun e w' => e = .returned (.int .i64 (leftFs F a)) ∧ Below w.heap.size w w' := by
  have HR := Aside0.mk hr
  clear hr
  have hn0 : (0 : Int) ≤ (F.length : Int) := by omega
  by_cases z : a - (F.length : Int) < 0
  · have hd : decide (a - (F.length : Int) < 0) = true := decide_eq_true z
    unfold leftFs
    rw [if_pos z]
    go_enter Try.func33, Try.ntmps33
    go_wp2
    go_ret
    exact ⟨rfl, Below.refl _ _⟩
  · have hd : decide (a - (F.length : Int) < 0) = false := decide_eq_false z
    unfold leftFs
    rw [if_neg z]
    generalize hv : leftL F (a - (F.length : Int)) = R at *
    have HV : Aside0 (leftL (F.drop 0) (a - (F.length : Int)) = R) := ⟨by rw [List.drop_zero]; exact hv⟩
    clear hv
    go_enter Try.func33, Try.ntmps33
    go_wp2
    clear hd
    clear z
    generalize a - (F.length : Int) = a0 at *
    clear h0 h1
    go_loopg [1, 5] F.length (fun kq v1 v2 w' => ∃ (i : Nat) (q : Int), i + kq = F.length ∧ v2 = .int .i64 i ∧ v1 = .int .i64 q ∧ Aside0 (leftL (F.drop i) q = R) ∧ Aside0 (Below w.heap.size w w'))
    case atStart => exact ⟨0, a0, by omega, rfl, rfl, HV, ⟨Below.refl _ _⟩⟩
    case round =>
      clear HV
      obtain ⟨i, q, hi, rfl, rfl, HV, HB⟩ := hrel
      cases gk with
      | zero =>
        obtain rfl : i = F.length := by omega
        have hd : decide ((F.length : Int) < (F.length : Int)) = false := decide_eq_false (by omega)
        go_wp2
        go_ret
        refine ⟨?_, HB.out⟩
        have := HV.out
        rw [List.drop_length] at this
        rw [← this]
        rfl
      | succ k1 =>
        have hil : i < F.length := by omega
        have hd : decide ((i : Int) < (F.length : Int)) = true := decide_eq_true (by omega)
        obtain ⟨ad, Ap, cp, Al, cl, Ab, cb, e, hx0, hx1, hx2, hx3, hRd⟩ := HR.out i hil
        subst e
        have hbl := HB.out
        replace hx0 := (hbl.cell (World.block_lt_of_cell? w _ hx0)).trans hx0
        replace hx1 := (hbl.cell (World.block_lt_of_cell? w _ hx1)).trans hx1
        replace hx2 := (hbl.cell (World.block_lt_of_cell? w _ hx2)).trans hx2
        replace hx3 := (hbl.cell (World.block_lt_of_cell? w _ hx3)).trans hx3
        have HRd := Aside0.mk (FnR.below hRd hbl)
        have HE : Aside0 (leftL (F.drop i) q = if leftR F[i] q < 0 then -1 else leftL (F.drop (i + 1)) (leftR F[i] q)) := ⟨by rw [List.drop_eq_getElem_cons hil]; rfl⟩
        clear hRd hbl
        generalize F[i] = f at *
        have cz := fun W Ap cp Al cl Ab cb => szFn Ap cp f.1 f.2.1 Al cl f.2.2.1 Ab cb f.2.2.2 q W
        obtain ⟨p, r, lo, b⟩ := f
        have q1 : (0 : Int) ≤ (i : Int) := by omega
        have q2 : (i : Int) < (F.length : Int) := by omega
        unfold leftR at HE
        simp only at HE cz
        generalize leftF p.length lo.length b.length q = q' at *
        by_cases z : q' < 0
        · have hd2 : decide (q' < 0) = true := decide_eq_true z
          go_wp2_with (go_at_call 24; (with_reducible refine (cz _ Ap cp Al cl Ab cb).mono ?_); rintro e w2 ⟨rfl, hb2⟩)
          go_ret
          refine ⟨?_, below_step HB.out hb2⟩
          have := HV.out
          rw [HE.out, if_pos z] at this
          rw [← this]
          rfl
        · have hd2 : decide (q' < 0) = false := decide_eq_false z
          go_wp2_with (go_at_call 24; (with_reducible refine (cz _ Ap cp Al cl Ab cb).mono ?_); rintro e w2 ⟨rfl, hb2⟩)
          go_roundg k1
          case measure => omega
          case rel => exact ⟨i + 1, q', by omega, by rw [Int.natCast_add]; rfl, rfl, ⟨by have := HV.out; rw [HE.out, if_neg (by omega)] at this; exact this⟩, ⟨below_step HB.out hb2⟩⟩
set_option maxRecDepth 100000 in
set_option maxHeartbeats 8000000 in
/-- Two rows of like funcs. -/
theorem eqFs (A : Option Addr) (c : Nat) (A' : Option Addr) (c' : Nat) (F : List Rec) (w : World) (hr : FsR w A F) (hr' : FsR w A' F) (hl : F.length ≤ 1048576) (hf : ∀ f ∈ F, lens f) : Calls Try.prog 45 #[.slice A F.length c, .slice A' F.length c'] w fun e w' => e = .returned (.bool true) ∧ Below w.heap.size w w' := by
  have HR := Aside0.mk hr
  have HR' := Aside0.mk hr'
  have HL := Aside0.mk hf
  clear hr hr' hf
  have hn0 : (0 : Int) ≤ (F.length : Int) := by omega
  go_enter Try.func45, Try.ntmps45
  go_wp2
  go_loopg [5] F.length (fun kq v2 w' => ∃ (i : Nat), i + kq = F.length ∧ v2 = .int .i64 i ∧ Aside0 (Below w.heap.size w w'))
  case atStart => exact ⟨0, by omega, rfl, ⟨Below.refl _ _⟩⟩
  case round =>
    obtain ⟨i, hi, rfl, HB⟩ := hrel
    cases gk with
    | zero =>
      obtain rfl : i = F.length := by omega
      have hd : decide ((F.length : Int) < (F.length : Int)) = false := decide_eq_false (by omega)
      go_wp2
      go_ret
      exact ⟨rfl, HB.out⟩
    | succ k1 =>
      have hil : i < F.length := by omega
      have hd : decide ((i : Int) < (F.length : Int)) = true := decide_eq_true (by omega)
      obtain ⟨ad, Ap, cp, Al, cl, Ab, cb, e, hx0, hx1, hx2, hx3, hRd⟩ := HR.out i hil
      obtain ⟨ad', Ap', cp', Al', cl', Ab', cb', e', hy0, hy1, hy2, hy3, hRd'⟩ := HR'.out i hil
      subst e
      subst e'
      have hbl := HB.out
      replace hx0 := (hbl.cell (World.block_lt_of_cell? w _ hx0)).trans hx0
      replace hx1 := (hbl.cell (World.block_lt_of_cell? w _ hx1)).trans hx1
      replace hx2 := (hbl.cell (World.block_lt_of_cell? w _ hx2)).trans hx2
      replace hx3 := (hbl.cell (World.block_lt_of_cell? w _ hx3)).trans hx3
      replace hy0 := (hbl.cell (World.block_lt_of_cell? w _ hy0)).trans hy0
      replace hy1 := (hbl.cell (World.block_lt_of_cell? w _ hy1)).trans hy1
      replace hy2 := (hbl.cell (World.block_lt_of_cell? w _ hy2)).trans hy2
      replace hy3 := (hbl.cell (World.block_lt_of_cell? w _ hy3)).trans hy3
      have HRd := Aside0.mk (FnR.below hRd hbl)
      have HRd' := Aside0.mk (FnR.below hRd' hbl)
      have HLi := Aside0.mk (HL.out F[i] (List.getElem_mem hil))
      clear hRd hRd' hbl
      generalize F[i] = f at *
      have ce := fun W h1 h2 => eqFn Ap cp Ap' cp' f.1 f.2.1 Al cl Al' cl' f.2.2.1 Ab cb Ab' cb' f.2.2.2 W h1 h2 HLi.out.1 HLi.out.2.1 HLi.out.2.2
      obtain ⟨p, r, lo, b⟩ := f
      have q1 : (0 : Int) ≤ (i : Int) := by omega
      have q2 : (i : Int) < (F.length : Int) := by omega
      simp only at ce
      have HX := Aside0.mk (And.intro (World.block_lt_of_cell? wr _ hx0) (World.block_lt_of_cell? wr _ hy0))
      have ce' := fun W (B : Below wr.heap.size wr W) => ce W (FnR.below HRd.out B) (FnR.below HRd'.out B)
      clear ce
      go_wp2_with fail
      go_region_held_law (fun w' => w'.cell? (ad.add (i * 4)) = some (.slice Ap p.length cp) ∧ w'.cell? ⟨(ad.add (i * 4)).block, (ad.add (i * 4)).off + 1, none⟩ = some (.int .i64 r) ∧ w'.cell? ⟨(ad.add (i * 4)).block, (ad.add (i * 4)).off + 2, none⟩ = some (.slice Al lo.length cl) ∧ w'.cell? ⟨(ad.add (i * 4)).block, (ad.add (i * 4)).off + 3, none⟩ = some (.slice Ab b.length cb) ∧ w'.cell? (ad'.add (i * 4)) = some (.slice Ap' p.length cp') ∧ w'.cell? ⟨(ad'.add (i * 4)).block, (ad'.add (i * 4)).off + 1, none⟩ = some (.int .i64 r) ∧ w'.cell? ⟨(ad'.add (i * 4)).block, (ad'.add (i * 4)).off + 2, none⟩ = some (.slice Al' lo.length cl') ∧ w'.cell? ⟨(ad'.add (i * 4)).block, (ad'.add (i * 4)).off + 3, none⟩ = some (.slice Ab' b.length cb')) (go_keep) (first | (go_at_call 28; (with_reducible refine (ce' _ (by repeat (first | (with_reducible exact Below.refl _ _) | (with_reducible refine below_drew1 ?_)))).mono ?_); rintro e w2 ⟨rfl, hb2⟩; have hbq : Below wr.heap.size wr w2 := below_step (by repeat (first | (with_reducible exact Below.refl _ _) | (with_reducible refine below_drew1 ?_))) hb2; have k10 := (hbq.cell (p := (ad.add (i * 4))) HX.out.1).trans hx0; have k11 := (hbq.cell (p := ⟨(ad.add (i * 4)).block, (ad.add (i * 4)).off + 1, none⟩) HX.out.1).trans hx1; have k12 := (hbq.cell (p := ⟨(ad.add (i * 4)).block, (ad.add (i * 4)).off + 2, none⟩) HX.out.1).trans hx2; have k13 := (hbq.cell (p := ⟨(ad.add (i * 4)).block, (ad.add (i * 4)).off + 3, none⟩) HX.out.1).trans hx3; have k20 := (hbq.cell (p := (ad'.add (i * 4))) HX.out.2).trans hy0; have k21 := (hbq.cell (p := ⟨(ad'.add (i * 4)).block, (ad'.add (i * 4)).off + 1, none⟩) HX.out.2).trans hy1; have k22 := (hbq.cell (p := ⟨(ad'.add (i * 4)).block, (ad'.add (i * 4)).off + 2, none⟩) HX.out.2).trans hy2; have k23 := (hbq.cell (p := ⟨(ad'.add (i * 4)).block, (ad'.add (i * 4)).off + 3, none⟩) HX.out.2).trans hy3))
      all_goals
        go_wp2
        go_roundg k1
        case measure => omega
        case rel => exact ⟨i + 1, by omega, by rw [Int.natCast_add]; rfl, ⟨below_step HB.out (below_step (by repeat (first | (with_reducible exact Below.refl _ _) | (with_reducible refine below_drew1 ?_))) hb2)⟩⟩
end Go.Proofs.Ytfhnffondamhdaa.OwnMdQ
namespace Go.Proofs.Ytfhnffondamhdaa.OwnMdE
open Go Go.RowKit Go.Proofs.YtfhnffondamhdaaW.PrintWords Go.Proofs.YtfhnffondamhdaaW.PrintLast Go.Proofs.YtfhnffondamhdaaW.PrintMore Go.Proofs.Ytfhnffondamhdaa.OwnBs Go.Proofs.Ytfhnffondamhdaa.OwnKp Go.Proofs.Ytfhnffondamhdaa.OwnCode Go.Proofs.Ytfhnffondamhdaa.OwnSt Go.Proofs.Ytfhnffondamhdaa.OwnFn Go.Proofs.Ytfhnffondamhdaa.OwnSz Go.Proofs.Ytfhnffondamhdaa.OwnFs Go.Proofs.Ytfhnffondamhdaa.OwnMd Go.Proofs.Ytfhnffondamhdaa.OwnMdW Go.Proofs.Ytfhnffondamhdaa.OwnMdQ
set_option linter.unusedVariables false
set_option linter.unusedSimpArgs false
set_option maxRecDepth 100000 in
set_option maxHeartbeats 8000000 in
theorem szGl (A : Option Addr) (n c : Nat) (a : Int) (w : World) : Calls Try.prog 34 #[.slice A n c, .int .i64 a] w fun e w' => e = .returned (.int .i64 (leftM n a)) ∧ Below w.heap.size w w' := by
  unfold leftM
  by_cases z : wrap64 (a - n) < 0
  · have hd : decide (wrap64 (a - n) < 0) = true := decide_eq_true z
    rw [if_pos z]
    clear z
    go_enter Try.func34, Try.ntmps34
    go_wp2
    go_ret
    exact ⟨by first | rfl | (simp; done), by with_reducible repeat first | exact Below.refl _ _ | refine below_alloc ?_ _ | refine below_drew1 ?_ | refine pw_below_drewN ?_ _⟩
  · have hd : decide (wrap64 (a - n) < 0) = false := decide_eq_false z
    rw [if_neg z]
    clear z
    go_enter Try.func34, Try.ntmps34
    go_wp2
    go_ret
    exact ⟨by first | rfl | (simp; done), by with_reducible repeat first | exact Below.refl _ _ | refine below_alloc ?_ _ | refine below_drew1 ?_ | refine pw_below_drewN ?_ _⟩
set_option maxRecDepth 100000 in
set_option maxHeartbeats 8000000 in
theorem eq1 (x0 : Int) (x1 : Bool) (x2 : Int) (w : World) : Calls Try.prog 82 #[.agg #[.int .i64 x0, .bool x1, .int .u64 x2], .agg #[.int .i64 x0, .bool x1, .int .u64 x2]] w fun e w' => e = .returned (.bool true) ∧ Below w.heap.size w w' := by
  have u1 : (x1 != x1) = false := by cases x1 <;> rfl
  go_enter Try.func82, Try.ntmps82
  go_wp2
  go_ret
  exact ⟨rfl, (by with_reducible repeat first | exact Below.refl _ _ | refine below_alloc ?_ _ | refine below_drew1 ?_ | refine pw_below_drewN ?_ _)⟩
set_option maxRecDepth 100000 in
set_option maxHeartbeats 8000000 in
theorem eqGl (A : Option Addr) (c : Nat) (A' : Option Addr) (c' : Nat) (l : List Glo) (w : World) (hr : Kd.C kG w A l.length l) (hc : l.length ≤ c) (hr' : Kd.C kG w A' l.length l) (hc' : l.length ≤ c') (hl : l.length ≤ 1048576) : Calls Try.prog 46 #[.slice A l.length c, .slice A' l.length c'] w fun e w' => e = .returned (.bool true) ∧ Below w.heap.size w w' := by
  have HR := Aside0.mk hr
  have HR' := Aside0.mk hr'
  clear hr hr'
  go_enter Try.func46, Try.ntmps46
  go_wp2
  go_loopg [5] l.length (fun kq v5 w' => ∃ i : Nat, i + kq = l.length ∧ v5 = .int .i64 i ∧ Aside0 (Below w.heap.size w w'))
  case atStart => exact ⟨0, by omega, rfl, ⟨Below.refl _ _⟩⟩
  case round =>
    obtain ⟨i, hi, rfl, HB⟩ := hrel
    cases gk with
    | zero =>
      obtain rfl : i = l.length := by omega
      have hd : decide ((l.length : Int) < (l.length : Int)) = false := decide_eq_false (by omega)
      go_wp2
      go_ret
      exact ⟨rfl, HB.out⟩
    | succ k1 =>
      have hil : i < l.length := by omega
      have hia : (i : Int) < (l.length : Int) := by omega
      have hd : decide ((i : Int) < (l.length : Int)) = true := decide_eq_true (by omega)
      obtain ⟨ad, e1, hx0, hx1, hx2⟩ := at_gl HR.out i hil
      obtain ⟨ad', e2, hy0, hy1, hy2⟩ := at_gl HR'.out i hil
      subst e1; subst e2
      have hbl := HB.out
      replace hx0 := (hbl.cell (World.block_lt_of_cell? w _ hx0)).trans hx0
      replace hx1 := (hbl.cell (World.block_lt_of_cell? w _ hx1)).trans hx1
      replace hx2 := (hbl.cell (World.block_lt_of_cell? w _ hx2)).trans hx2
      replace hy0 := (hbl.cell (World.block_lt_of_cell? w _ hy0)).trans hy0
      replace hy1 := (hbl.cell (World.block_lt_of_cell? w _ hy1)).trans hy1
      replace hy2 := (hbl.cell (World.block_lt_of_cell? w _ hy2)).trans hy2
      have lq0 := World.block_lt_of_cell? wr _ hx0
      have lq1 := World.block_lt_of_cell? wr _ hx1
      have lq2 := World.block_lt_of_cell? wr _ hx2
      have lq3 := World.block_lt_of_cell? wr _ hy0
      have lq4 := World.block_lt_of_cell? wr _ hy1
      have lq5 := World.block_lt_of_cell? wr _ hy2
      clear hbl
      generalize l[i] = x at *
      obtain ⟨x0, x1, x2⟩ := x
      simp only at hx0 hx1 hx2 hy0 hy1 hy2
      have cg := fun W => eq1 x0 x1 x2 W
      have q1 : (0 : Int) ≤ (i : Int) := by omega
      have ew : IntKind.i64.wrap ((i : Int) + 1) = (i : Int) + 1 := by rw [IntKind.wrap_i64]; omega
      go_wp2
      go_region_held_law (fun w' => w'.cell? (ad.add (i * 3)) = some (.int .i64 x0) ∧ w'.cell? ⟨(ad.add (i * 3)).block, (ad.add (i * 3)).off + 1, none⟩ = some (.bool x1) ∧ w'.cell? ⟨(ad.add (i * 3)).block, (ad.add (i * 3)).off + 2, none⟩ = some (.int .u64 x2) ∧ w'.cell? (ad'.add (i * 3)) = some (.int .i64 x0) ∧ w'.cell? ⟨(ad'.add (i * 3)).block, (ad'.add (i * 3)).off + 1, none⟩ = some (.bool x1) ∧ w'.cell? ⟨(ad'.add (i * 3)).block, (ad'.add (i * 3)).off + 2, none⟩ = some (.int .u64 x2)) (refine ⟨?_, ?_, ?_, ?_, ?_, ?_⟩ <;> go_simp) (first | (go_at_call 82; (with_reducible refine (cg _).mono ?_); rintro e w2 ⟨rfl, hb2⟩; obtain ⟨hc2, hf2⟩ := bcell hb2; have j0 : w2.cell? (ad.add (i * 3)) = some (.int .i64 x0) := (by rw [hb2.cell (by first | exact lq0 | (simp; exact lq0))]; go_simp); have j1 : w2.cell? ⟨(ad.add (i * 3)).block, (ad.add (i * 3)).off + 1, none⟩ = some (.bool x1) := (by rw [hb2.cell (by first | exact lq1 | (simp; exact lq1))]; go_simp); have j2 : w2.cell? ⟨(ad.add (i * 3)).block, (ad.add (i * 3)).off + 2, none⟩ = some (.int .u64 x2) := (by rw [hb2.cell (by first | exact lq2 | (simp; exact lq2))]; go_simp); have j3 : w2.cell? (ad'.add (i * 3)) = some (.int .i64 x0) := (by rw [hb2.cell (by first | exact lq3 | (simp; exact lq3))]; go_simp); have j4 : w2.cell? ⟨(ad'.add (i * 3)).block, (ad'.add (i * 3)).off + 1, none⟩ = some (.bool x1) := (by rw [hb2.cell (by first | exact lq4 | (simp; exact lq4))]; go_simp); have j5 : w2.cell? ⟨(ad'.add (i * 3)).block, (ad'.add (i * 3)).off + 2, none⟩ = some (.int .u64 x2) := (by rw [hb2.cell (by first | exact lq5 | (simp; exact lq5))]; go_simp)))
      all_goals
        first | (rename_i kk; refine kk _ _ ?_) | (rename_i kk _; refine kk _ _ ?_) | skip
        go_wp2
        go_roundg k1
        case measure => omega
        case rel => exact ⟨i + 1, by omega, by rw [Int.natCast_add]; rfl, ⟨below_step HB.out (by with_reducible repeat first | exact Below.refl _ _ | refine below_alloc ?_ _ | refine below_drew1 ?_ | refine pw_below_drewN ?_ _ | refine below_step ?_ hb2)⟩⟩
/-- What a module leaves of a budget. -/
def szM (F : List Rec) (G : List Glo) (a : Int) : Int := if leftFs F a < 0 then -1 else if leftM G.length (leftFs F a) < 0 then -1 else leftM G.length (leftFs F a)
set_option maxRecDepth 100000 in
set_option maxHeartbeats 8000000 in
theorem szMd (Af : Option Addr) (cf : Nat) (F : List Rec) (Ag : Option Addr) (cg : Nat) (G : List Glo) (mem : Bool) (pages most start : Int) (a : Int) (w : World) (hr : MdR w Af cf F Ag cg G) (h0 : 0 ≤ a) (h1 : a ≤ 1048576) (hl : F.length ≤ 9223372036854775807) : Calls Try.prog 9 #[mdV Af cf F Ag cg G mem pages most start, .int .i64 a] w fun e w' => e = .returned (.int .i64 (szM F G a)) ∧ Below w.heap.size w w' := by
  have HR := Aside0.mk hr
  have c1' := fun W (B : Below w.heap.size w W) => szFs Af cf F a W (FsR.below HR.out.f1 B) h0 h1 hl
  have c2' := fun q W (_ : Below w.heap.size w W) => szGl Ag G.length cg q W
  unfold szM
  clear hr h0 h1 hl
  generalize leftFs F a = q at *
  by_cases z : q < 0
  · rw [if_pos z]
    have hd : decide (q < 0) = true := decide_eq_true z
    clear z
    go_enter Try.func9, Try.ntmps9
    go_wp2_with (first
      | (go_at_call 33; (fail_if_success (have _ := hb1)); (with_reducible refine (c1' _ (by repeat (first | with_reducible first | exact Below.refl _ _ | refine below_alloc ?_ _ | refine below_drew1 ?_ | refine pw_below_drewN ?_ _))).mono ?_); rintro e w1 ⟨rfl, hb1⟩; obtain ⟨hc1, hf1⟩ := bcell hb1; have hz1_0_0 : w.heap.size < w1.heap.size := (by have := hb1.size; first | omega | (simp at this; omega))))
    refine bodyPost_ret (v := .int .i64 (-1)) (by simp [results, Try.results9, go_sem, hc1, hf1, hz1_0_0]) rfl ⟨rfl, ?_⟩
    repeat (first | with_reducible first | exact Below.refl _ _ | refine below_alloc ?_ _ | refine below_drew1 ?_ | refine pw_below_drewN ?_ _ | refine below_step ?_ hb1)
  · rw [if_neg z]
    have hd : decide (q < 0) = false := decide_eq_false z
    clear z
    replace c2' := c2' q
    generalize leftM G.length q = t at *
    by_cases z : t < 0
    · rw [if_pos z]
      have hd2 : decide (t < 0) = true := decide_eq_true z
      clear z
      go_enter Try.func9, Try.ntmps9
      go_wp2_with (first
        | (go_at_call 34; (fail_if_success (have _ := hb2)); have _ := hb1; (with_reducible refine (c2' _ (by repeat (first | with_reducible first | exact Below.refl _ _ | refine below_alloc ?_ _ | refine below_drew1 ?_ | refine pw_below_drewN ?_ _ | refine below_step ?_ hb1))).mono ?_); rintro e w2 ⟨rfl, hb2⟩; obtain ⟨hc2, hf2⟩ := bcell hb2; have hz2_0_0 : w.heap.size < w2.heap.size := (by have := hb2.size; first | omega | (simp at this; omega)))
        | (go_at_call 33; (fail_if_success (have _ := hb1)); (with_reducible refine (c1' _ (by repeat (first | with_reducible first | exact Below.refl _ _ | refine below_alloc ?_ _ | refine below_drew1 ?_ | refine pw_below_drewN ?_ _))).mono ?_); rintro e w1 ⟨rfl, hb1⟩; obtain ⟨hc1, hf1⟩ := bcell hb1; have hz1_0_0 : w.heap.size < w1.heap.size := (by have := hb1.size; first | omega | (simp at this; omega))))
      refine bodyPost_ret (v := .int .i64 (-1)) (by simp [results, Try.results9, go_sem, hc1, hf1, hz1_0_0, hc2, hf2, hz2_0_0]) rfl ⟨rfl, ?_⟩
      repeat (first | with_reducible first | exact Below.refl _ _ | refine below_alloc ?_ _ | refine below_drew1 ?_ | refine pw_below_drewN ?_ _ | refine below_step ?_ hb2 | refine below_step ?_ hb1)
    · rw [if_neg z]
      have hd2 : decide (t < 0) = false := decide_eq_false z
      clear z
      go_enter Try.func9, Try.ntmps9
      go_wp2_with (first
        | (go_at_call 34; (fail_if_success (have _ := hb2)); have _ := hb1; (with_reducible refine (c2' _ (by repeat (first | with_reducible first | exact Below.refl _ _ | refine below_alloc ?_ _ | refine below_drew1 ?_ | refine pw_below_drewN ?_ _ | refine below_step ?_ hb1))).mono ?_); rintro e w2 ⟨rfl, hb2⟩; obtain ⟨hc2, hf2⟩ := bcell hb2; have hz2_0_0 : w.heap.size < w2.heap.size := (by have := hb2.size; first | omega | (simp at this; omega)))
        | (go_at_call 33; (fail_if_success (have _ := hb1)); (with_reducible refine (c1' _ (by repeat (first | with_reducible first | exact Below.refl _ _ | refine below_alloc ?_ _ | refine below_drew1 ?_ | refine pw_below_drewN ?_ _))).mono ?_); rintro e w1 ⟨rfl, hb1⟩; obtain ⟨hc1, hf1⟩ := bcell hb1; have hz1_0_0 : w.heap.size < w1.heap.size := (by have := hb1.size; first | omega | (simp at this; omega))))
      refine bodyPost_ret (v := .int .i64 t) (by simp [results, Try.results9, go_sem, hc1, hf1, hz1_0_0, hc2, hf2, hz2_0_0]) rfl ⟨rfl, ?_⟩
      repeat (first | with_reducible first | exact Below.refl _ _ | refine below_alloc ?_ _ | refine below_drew1 ?_ | refine pw_below_drewN ?_ _ | refine below_step ?_ hb2 | refine below_step ?_ hb1)
set_option maxRecDepth 100000 in
set_option maxHeartbeats 8000000 in
theorem eqMd (Af : Option Addr) (cf : Nat) (F : List Rec) (Ag : Option Addr) (cg : Nat) (G : List Glo) (mem : Bool) (pages most start : Int) (Af' : Option Addr) (cf' : Nat) (Ag' : Option Addr) (cg' : Nat) (w : World) (hr : MdR w Af cf F Ag cg G) (hr' : MdR w Af' cf' F Ag' cg' G) (hF : F.length ≤ 1048576) (hf : ∀ f ∈ F, lens f) (hG : G.length ≤ 1048576) : Calls Try.prog 15 #[mdV Af cf F Ag cg G mem pages most start, mdV Af' cf' F Ag' cg' G mem pages most start] w fun e w' => e = .returned (.bool true) ∧ Below w.heap.size w w' := by
  have HR := Aside0.mk hr
  have HR' := Aside0.mk hr'
  have HL := Aside0.mk hf
  have c1' := fun W (B : Below w.heap.size w W) => eqFs Af cf Af' cf' F W (FsR.below HR.out.f1 B) (FsR.below HR'.out.f1 B) hF HL.out
  have c2' := fun W (B : Below w.heap.size w W) => eqGl Ag cg Ag' cg' G W (Kd.C_below HR.out.g1 B) HR.out.g2 (Kd.C_below HR'.out.g1 B) HR'.out.g2 hG
  clear hr hr' hf hF hG
  go_enter Try.func15, Try.ntmps15
  go_wp2_with (first
    | (go_at_call 46; (fail_if_success (have _ := hb2)); have _ := hb1; (with_reducible refine (c2' _ (by repeat (first | with_reducible first | exact Below.refl _ _ | refine below_alloc ?_ _ | refine below_drew1 ?_ | refine pw_below_drewN ?_ _ | refine below_step ?_ hb1))).mono ?_); rintro e w2 ⟨rfl, hb2⟩; obtain ⟨hc2, hf2⟩ := bcell hb2; have hz2_0_0 : w.heap.size < w2.heap.size := (by have := hb2.size; first | omega | (simp at this; omega)); have hz2_0_1 : w.heap.size + 1 < w2.heap.size := (by have := hb2.size; first | omega | (simp at this; omega)))
    | (go_at_call 45; (fail_if_success (have _ := hb1)); (with_reducible refine (c1' _ (by repeat (first | with_reducible first | exact Below.refl _ _ | refine below_alloc ?_ _ | refine below_drew1 ?_ | refine pw_below_drewN ?_ _))).mono ?_); rintro e w1 ⟨rfl, hb1⟩; obtain ⟨hc1, hf1⟩ := bcell hb1; have hz1_0_0 : w.heap.size < w1.heap.size := (by have := hb1.size; first | omega | (simp at this; omega)); have hz1_0_1 : w.heap.size + 1 < w1.heap.size := (by have := hb1.size; first | omega | (simp at this; omega))))
  refine bodyPost_ret (v := .bool true) (by simp [results, Try.results15, go_sem, hc1, hf1, hz1_0_0, hz1_0_1, hc2, hf2, hz2_0_0, hz2_0_1]) rfl ⟨rfl, ?_⟩
  repeat (first | with_reducible first | exact Below.refl _ _ | refine below_alloc ?_ _ | refine below_drew1 ?_ | refine pw_below_drewN ?_ _ | refine below_step ?_ hb2 | refine below_step ?_ hb1)
/-- What a budget that is not used up says. -/
theorem leftM_le {n : Nat} {a : Int} (hm : n ≤ 9223372036854775807) (ha : 0 ≤ a) (ha2 : a ≤ 1048576) (h : ¬ leftM n a < 0) : (n : Int) ≤ a ∧ 0 ≤ leftM n a ∧ leftM n a ≤ a := by
  unfold leftM at *
  unfold wrap64 at *
  split at h
  · omega
  · rename_i k; rw [if_neg k]; omega
theorem leftR_le {f : Rec} {a : Int} (h1 : f.1.length ≤ 9223372036854775807) (h2 : f.2.2.1.length ≤ 9223372036854775807) (h3 : f.2.2.2.length ≤ 9223372036854775807) (ha : 0 ≤ a) (ha2 : a ≤ 1048576) (h : ¬ leftR f a < 0) : lens f ∧ 0 ≤ leftR f a ∧ leftR f a ≤ a := by
  unfold leftR leftF at *
  split at h
  · omega
  · rename_i k1
    rw [if_neg k1]
    split at h
    · omega
    · rename_i k2
      rw [if_neg k2]
      split at h
      · omega
      · rename_i k3
        rw [if_neg k3]
        have e1 := leftM_le h1 ha ha2 k1
        have e2 := leftM_le h2 e1.2.1 (by omega) k2
        have e3 := leftM_le h3 e2.2.1 (by omega) k3
        exact ⟨⟨by omega, by omega, by omega⟩, e3.2.1, by omega⟩
def lens0 (f : Rec) : Prop := f.1.length ≤ 9223372036854775807 ∧ f.2.2.1.length ≤ 9223372036854775807 ∧ f.2.2.2.length ≤ 9223372036854775807
theorem leftL_le : ∀ (F : List Rec) (a : Int), (∀ f ∈ F, lens0 f) → 0 ≤ a → a ≤ 1048576 → ¬ leftL F a < 0 → (∀ f ∈ F, lens f) ∧ 0 ≤ leftL F a ∧ leftL F a ≤ a
  | [], a, _, ha, _, _ => ⟨(fun f h => by cases h), ha, Int.le_refl _⟩
  | f :: F, a, h0, ha, ha2, h => by
    unfold leftL at *
    by_cases k : leftR f a < 0
    · rw [if_pos k] at h; omega
    · rw [if_neg k] at h ⊢
      have hf := h0 f (List.mem_cons_self ..)
      have e1 := leftR_le hf.1 hf.2.1 hf.2.2 ha ha2 k
      have e2 := leftL_le F (leftR f a) (fun g hg => h0 g (List.mem_cons_of_mem _ hg)) e1.2.1 (by omega) h
      refine ⟨fun g hg => ?_, e2.2.1, by omega⟩
      rcases List.mem_cons.1 hg with rfl | hg
      · exact e1.1
      · exact e2.1 g hg
theorem szM_le {F : List Rec} {G : List Glo} {a : Int} (hF : F.length ≤ 9223372036854775807) (hf : ∀ f ∈ F, lens0 f) (hG : G.length ≤ 9223372036854775807) (ha : 0 ≤ a) (ha2 : a ≤ 1048576) (h : ¬ szM F G a < 0) : F.length ≤ 1048576 ∧ (∀ f ∈ F, lens f) ∧ G.length ≤ 1048576 ∧ 0 ≤ szM F G a ∧ szM F G a ≤ a := by
  unfold szM at *
  by_cases k : leftFs F a < 0
  · rw [if_pos k] at h; omega
  · rw [if_neg k] at h ⊢
    by_cases k2 : leftM G.length (leftFs F a) < 0
    · rw [if_pos k2] at h; omega
    · rw [if_neg k2]
      have e0 : ¬ (a - (F.length : Int) < 0) := by intro h; unfold leftFs at k; rw [if_pos h] at k; exact k (by decide)
      have ef : leftFs F a = leftL F (a - F.length) := by unfold leftFs; rw [if_neg e0]
      rw [ef] at k k2 ⊢
      have e1 := leftL_le F _ hf (by omega) (by omega) k
      have e2 := leftM_le hG e1.2.1 (by omega) k2
      exact ⟨by omega, e1.1, by omega, e2.2.1, by omega⟩
/-- What can be read as a row of funcs. -/
theorem FsR_of {q1 q2 q3 n : Nat} {w : World} {A : Option Addr} {F : List Rec} (h : Kd.C (Kd.pair (Kd.slice q1 (Kd.int .i64)) (Kd.pair (Kd.int .i64) (Kd.pair (Kd.slice q2 (Kd.int .i64)) (Kd.slice q3 kI)))) w A n F) : FsR w A F := by
  intro j hj
  obtain ⟨h1, h2, h3⟩ := h
  obtain ⟨ad, e, h4⟩ := h3 (by omega)
  obtain ⟨c, hc, hk, hu⟩ := h4 j F[j] (List.getElem?_eq_getElem hj)
  obtain ⟨c0, c1, rfl, k0, k1⟩ := hk
  obtain ⟨d0, d1, rfl, k2, k3⟩ := k1
  obtain ⟨e0, e1, rfl, k4, k5⟩ := k3
  obtain ⟨Ap, cp, rfl, hcp, R0⟩ := k0
  obtain ⟨Al, cl, rfl, hcl, R2⟩ := k4
  obtain ⟨Ab, cb, rfl, hcb, R3⟩ := k5
  have e1 : d0 = [.int .i64 F[j].2.1] := k2
  subst e1
  refine ⟨ad, Ap, cp, Al, cl, Ab, cb, e, ?_, ?_, ?_, ?_, ⟨R0, R2, R3, hcp, hcl, hcb⟩⟩
  · exact hu 0 _ rfl
  · rw [← add_field ad (j * 4) 1 (by decide)]
    exact hu 1 _ rfl
  · rw [← add_field ad (j * 4) 2 (by decide)]
    exact hu 2 _ rfl
  · rw [← add_field ad (j * 4) 3 (by decide)]
    exact hu 3 _ rfl
end Go.Proofs.Ytfhnffondamhdaa.OwnMdE
namespace Go.Proofs.Ytfhnffondamhdaa.OwnGs
open Go Go.RowKit Go.Proofs.YtfhnffondamhdaaW.PrintWords Go.Proofs.YtfhnffondamhdaaW.PrintLast Go.Proofs.YtfhnffondamhdaaW.PrintMore Go.Proofs.Ytfhnffondamhdaa.OwnBs Go.Proofs.Ytfhnffondamhdaa.OwnKp Go.Proofs.Ytfhnffondamhdaa.OwnCode Go.Proofs.Ytfhnffondamhdaa.OwnSt Go.Proofs.Ytfhnffondamhdaa.OwnFn Go.Proofs.Ytfhnffondamhdaa.OwnFs Go.Proofs.Ytfhnffondamhdaa.OwnMd
set_option linter.unusedVariables false
set_option linter.unusedSimpArgs false
def fnB (f : Rec) : Bool := fnG f.1 f.2.1 f.2.2.1 f.2.2.2
def gloB (g : Glo) : Bool := tyB g.1 && (decide (g.1 = 126) || decide (g.2.2 ≤ 4294967295))
def memB (mem : Bool) (pages most : Int) : Bool := if mem = true then decide (0 ≤ pages ∧ pages ≤ most ∧ most ≤ 8) else decide (pages = 0 ∧ most = 0)
def stB (F : List Rec) (start : Int) : Bool := if start = -1 then true else decide (0 ≤ start) && (match F[start.toNat]? with | some f => decide (f.1.length = 0) && decide (f.2.1 = 64) | none => false)
def gsM (F : List Rec) (G : List Glo) (mem : Bool) (pages most start : Int) : Bool := decide (F.length ≤ 10) && (decide (G.length ≤ 6) && (F.all fnB && (G.all gloB && (memB mem pages most && stB F start))))
section
variable {F : List Rec} {G : List Glo} {mem : Bool} {pages most start : Int}
theorem gs_l1 (h : ¬ F.length ≤ 10) : gsM F G mem pages most start = false := by unfold gsM; rw [decide_eq_false h, Bool.false_and]
theorem gs_l2 (h : ¬ G.length ≤ 6) : gsM F G mem pages most start = false := by unfold gsM; rw [decide_eq_false h, Bool.false_and, Bool.and_false]
theorem gs_f (i : Nat) (hi : i < F.length) (h : fnB F[i] = false) : gsM F G mem pages most start = false := by
  have : F.all fnB = false := by rw [List.all_eq_false]; exact ⟨F[i], List.getElem_mem hi, by rw [h]; decide⟩
  unfold gsM; rw [this, Bool.false_and, Bool.and_false, Bool.and_false]
theorem gs_g (i : Nat) (hi : i < G.length) (h : gloB G[i] = false) : gsM F G mem pages most start = false := by
  have : G.all gloB = false := by rw [List.all_eq_false]; exact ⟨G[i], List.getElem_mem hi, by rw [h]; decide⟩
  unfold gsM; rw [this, Bool.false_and, Bool.and_false, Bool.and_false, Bool.and_false]
theorem gs_m (h : memB mem pages most = false) : gsM F G mem pages most start = false := by unfold gsM; rw [h, Bool.false_and, Bool.and_false, Bool.and_false, Bool.and_false, Bool.and_false]
theorem gs_st (h : stB F start = false) : gsM F G mem pages most start = false := by unfold gsM; rw [h, Bool.and_false, Bool.and_false, Bool.and_false, Bool.and_false, Bool.and_false]
theorem gs_ok (h1 : F.length ≤ 10) (h2 : G.length ≤ 6) (h3 : ∀ i, (h : i < F.length) → fnB F[i] = true) (h4 : ∀ i, (h : i < G.length) → gloB G[i] = true) (h5 : memB mem pages most = true) (h6 : stB F start = true) : gsM F G mem pages most start = true := by
  have e3 : F.all fnB = true := by
    rw [List.all_eq_true]
    intro x hx
    obtain ⟨i, hi, rfl⟩ := List.getElem_of_mem hx
    exact h3 i hi
  have e4 : G.all gloB = true := by
    rw [List.all_eq_true]
    intro x hx
    obtain ⟨i, hi, rfl⟩ := List.getElem_of_mem hx
    exact h4 i hi
  unfold gsM
  rw [decide_eq_true h1, decide_eq_true h2, e3, e4, h5, h6]
  rfl
theorem st_in {s : Nat} (hs : s < F.length) (h : start = s) : stB F start = (decide (F[s].1.length = 0) && decide (F[s].2.1 = 64)) := by
  subst h
  unfold stB
  rw [if_neg (by omega), decide_eq_true (by omega), Bool.true_and, Int.toNat_natCast, List.getElem?_eq_getElem hs]
theorem st_out (h : start ≠ -1) (h2 : start < 0 ∨ F.length ≤ start) : stB F start = false := by
  unfold stB
  rw [if_neg h]
  by_cases g : 0 ≤ start
  · have : F[start.toNat]? = none := List.getElem?_eq_none (by omega)
    rw [this, Bool.and_false]
  · rw [decide_eq_false g, Bool.false_and]
theorem st_one (h : start = -1) : stB F start = true := by unfold stB; rw [if_pos h]
end
theorem glo_i (g : Glo) (w : World) : Calls Try.prog 74 #[.agg #[.int .i64 g.1, .bool g.2.1, .int .u64 g.2.2]] w fun e w' => e = .returned (.bool (gloB g)) ∧ Below w.heap.size w w' :=
  PgoodGlobal.impl_goodGlobal.calls g.1 g.2.1 g.2.2 (gloB g) w (by
    have ht : PgoodGlobal.impl_goodType.f g.1 = some (tyB g.1) := by
      unfold PgoodGlobal.impl_goodType.f tyB
      split; · simp; omega
      · split; · simp; omega
        · congr 1; rw [Bool.eq_iff_iff]; simp; omega
    unfold PgoodGlobal.impl_goodGlobal.f gloB
    rw [ht, Option.bind_some]
    cases tyB g.1 with
    | false => rfl
    | true =>
      rw [if_pos rfl, Bool.true_and]
      by_cases h : g.1 = 126
      · rw [if_pos h, decide_eq_true h]; rfl
      · rw [if_neg h, decide_eq_false h, Bool.false_or]
        congr 1
        rw [Bool.eq_iff_iff]; simp; omega)
theorem ty_sn (x : Int) (w : World) : Calls Try.prog 72 #[.int .i64 x] w fun e w' => e = .returned (.bool (tyB x)) ∧ ∃ n, w' = w.drewN n := by
  refine (Pl7Types.spec_l6Type.calls x (tyB x) w ?_).mono fun e w' h => ⟨h.1, h.2.out⟩
  unfold Pl7Types.spec_l6Type.f Pl7Types.spec_l1In.f tyB
  split
  · simp only [Option.bind_some]; congr 1; rw [Bool.eq_iff_iff]; simp; omega
  · simp only [Option.bind_some]; congr 1; rw [Bool.eq_iff_iff]; simp; omega
theorem in_n (a b c : Int) (w : World) : Calls Try.prog 73 #[.int .i64 a, .int .i64 b, .int .i64 c] w fun e w' => e = .returned (.bool (decide (b ≤ a ∧ a ≤ c))) ∧ ∃ n, w' = w.drewN n :=
  (Pl7Types.spec_l1In.calls a b c (decide (b ≤ a ∧ a ≤ c)) w (by
    unfold Pl7Types.spec_l1In.f
    by_cases h : a ≥ b
    · rw [if_pos h]; exact congrArg some (decide_eq_decide.2 (by omega))
    · rw [if_neg h]; exact congrArg some (decide_eq_false (by omega)).symm)).mono fun e w' h => ⟨h.1, h.2.out⟩
/-- A module's own cells, boxed at the call's begin. -/
structure MC (w wr : World) (Af : Option Addr) (cf n : Nat) (Ag : Option Addr) (cg k : Nat) (mem : Bool) (pages most start : Int) : Prop where
  c0 : wr.cell? ⟨w.heap.size, 0, none⟩ = some (.slice Af n cf)
  c1 : wr.cell? ⟨w.heap.size, 1, none⟩ = some (.slice Ag k cg)
  c2 : wr.cell? ⟨w.heap.size, 2, none⟩ = some (.bool mem)
  c3 : wr.cell? ⟨w.heap.size, 3, none⟩ = some (.int .i64 pages)
  c4 : wr.cell? ⟨w.heap.size, 4, none⟩ = some (.int .i64 most)
  c5 : wr.cell? ⟨w.heap.size, 5, none⟩ = some (.int .i64 start)
  lt : w.heap.size < wr.heap.size
  bel : Below w.heap.size w wr
theorem MC.below {w wr w1 : World} {Af cf n Ag cg k mem pages most start} (h : MC w wr Af cf n Ag cg k mem pages most start) (hb : Below wr.heap.size wr w1) : MC w w1 Af cf n Ag cg k mem pages most start :=
  ⟨(hb.cell (p := ⟨_, _, none⟩) h.lt).trans h.c0, (hb.cell (p := ⟨_, _, none⟩) h.lt).trans h.c1, (hb.cell (p := ⟨_, _, none⟩) h.lt).trans h.c2, (hb.cell (p := ⟨_, _, none⟩) h.lt).trans h.c3, (hb.cell (p := ⟨_, _, none⟩) h.lt).trans h.c4, (hb.cell (p := ⟨_, _, none⟩) h.lt).trans h.c5, Nat.lt_of_lt_of_le h.lt hb.size, below_step h.bel hb⟩
end Go.Proofs.Ytfhnffondamhdaa.OwnGs
namespace Go.Proofs.Ytfhnffondamhdaa.OwnGsI
open Go Go.RowKit Go.Proofs.YtfhnffondamhdaaW.PrintWords Go.Proofs.YtfhnffondamhdaaW.PrintLast Go.Proofs.YtfhnffondamhdaaW.PrintMore Go.Proofs.Ytfhnffondamhdaa.OwnBs Go.Proofs.Ytfhnffondamhdaa.OwnKp Go.Proofs.Ytfhnffondamhdaa.OwnCode Go.Proofs.Ytfhnffondamhdaa.OwnSt Go.Proofs.Ytfhnffondamhdaa.OwnFn Go.Proofs.Ytfhnffondamhdaa.OwnFs Go.Proofs.Ytfhnffondamhdaa.OwnMd Go.Proofs.Ytfhnffondamhdaa.OwnGs
set_option linter.unusedVariables false
set_option linter.unusedSimpArgs false
set_option maxRecDepth 100000 in
set_option maxHeartbeats 20000000 in
theorem gsh_i (Af : Option Addr) (cf : Nat) (F : List Rec) (Ag : Option Addr) (cg : Nat) (G : List Glo) (mem : Bool) (pages most start : Int) (w : World) (hr : MdR w Af cf F Ag cg G) (hF : F.length ≤ 1048576) (hf : ∀ f ∈ F, lens f) (hG : G.length ≤ 1048576) (hS : -9223372036854775808 ≤ start) (hS2 : start ≤ 9223372036854775807) : Calls Try.prog 30 #[mdV Af cf F Ag cg G mem pages most start] w fun e w' => e = .returned (.bool (gsM F G mem pages most start)) ∧ Below w.heap.size w w' := by
  have HR := Aside0.mk hr
  have HL := Aside0.mk hf
  generalize hgs : gsM F G mem pages most start = R
  have HG := Aside0.mk hgs
  clear hr hf hgs
  by_cases zF : F.length ≤ 10
  rotate_left
  · obtain rfl : R = false := by rw [← HG.out]; exact gs_l1 zF
    have d1 : decide ((10 : Int) < (F.length : Int)) = true := decide_eq_true (by omega)
    have d2 : decide (10 < F.length) = true := decide_eq_true (by omega)
    go_enter Try.func30, Try.ntmps30
    go_wp2
    go_ret
    exact ⟨rfl, (by repeat (first | with_reducible first | exact Below.refl _ _ | refine below_alloc ?_ _ | refine below_drew1 ?_ | refine pw_below_drewN ?_ _))⟩
  by_cases zG : G.length ≤ 6
  rotate_left
  · obtain rfl : R = false := by rw [← HG.out]; exact gs_l2 zG
    have d1 : decide ((10 : Int) < (F.length : Int)) = false := decide_eq_false (by omega)
    have d2 : decide (10 < F.length) = false := decide_eq_false (by omega)
    have d3 : decide ((6 : Int) < (G.length : Int)) = true := decide_eq_true (by omega)
    have d4 : decide (6 < G.length) = true := decide_eq_true (by omega)
    go_enter Try.func30, Try.ntmps30
    go_wp2
    go_ret
    exact ⟨rfl, (by repeat (first | with_reducible first | exact Below.refl _ _ | refine below_alloc ?_ _ | refine below_drew1 ?_ | refine pw_below_drewN ?_ _))⟩
  have d1 : decide ((10 : Int) < (F.length : Int)) = false := decide_eq_false (by omega)
  have d2 : decide (10 < F.length) = false := decide_eq_false (by omega)
  have d3 : decide ((6 : Int) < (G.length : Int)) = false := decide_eq_false (by omega)
  have d4 : decide (6 < G.length) = false := decide_eq_false (by omega)
  go_enter Try.func30, Try.ntmps30
  go_wp2
  clear d1 d2 d3 d4
  have HM0 : Aside0 (MC w (w.alloc (.cells #[.slice Af F.length cf, .slice Ag G.length cg, .bool mem, .int .i64 pages, .int .i64 most, .int .i64 start] 37)) Af cf F.length Ag cg G.length mem pages most start) := ⟨⟨by go_simp, by go_simp, by go_simp, by go_simp, by go_simp, by go_simp, by simp, (by repeat (first | with_reducible first | exact Below.refl _ _ | refine below_alloc ?_ _ | refine below_drew1 ?_ | refine pw_below_drewN ?_ _))⟩⟩
  go_loopg [20] F.length (fun kq v20 w' => ∃ i : Nat, i + kq = F.length ∧ v20 = .int .i64 i ∧ Aside0 (MC w w' Af cf F.length Ag cg G.length mem pages most start) ∧ Aside0 (∀ j, (h : j < F.length) → j < i → fnB F[j] = true))
  case atStart => exact ⟨0, by omega, rfl, HM0, ⟨fun j _ h => absurd h (Nat.not_lt_zero _)⟩⟩
  case round =>
    clear HM0
    obtain ⟨i, hi, rfl, HM, HA⟩ := hrel
    cases gk with
    | succ k1 =>
      have hil : i < F.length := by omega
      have hd : decide ((i : Int) < (F.length : Int)) = true := decide_eq_true (by omega)
      obtain ⟨ad, Ap, cp, Al, cl, Ab, cb, e, hx0, hx1, hx2, hx3, hRd⟩ := HR.out.f1 i hil
      subst e
      have hbl := HM.out.bel
      replace hx0 := (hbl.cell (World.block_lt_of_cell? w _ hx0)).trans hx0
      replace hx1 := (hbl.cell (World.block_lt_of_cell? w _ hx1)).trans hx1
      replace hx2 := (hbl.cell (World.block_lt_of_cell? w _ hx2)).trans hx2
      replace hx3 := (hbl.cell (World.block_lt_of_cell? w _ hx3)).trans hx3
      have HRd := Aside0.mk (FnR.below hRd hbl)
      have HLi := Aside0.mk (HL.out F[i] (List.getElem_mem hil))
      have HB : Aside0 (fnB F[i] = false → gsM F G mem pages most start = false) := ⟨fun h => gs_f i hil h⟩
      have HA2 : Aside0 (fnB F[i] = true → ∀ j, (h : j < F.length) → j < i + 1 → fnB F[j] = true) := ⟨fun h j hj hji => by
        by_cases e : j = i
        · subst e; exact h
        · exact HA.out j hj (by omega)⟩
      clear hRd hbl HA
      generalize F[i] = f at *
      have cg' := fun W (B : Below wr.heap.size wr W) => good_fn_i Ap cp f.1 f.2.1 Al cl f.2.2.1 Ab cb f.2.2.2 W (FnR.below HRd.out B) HLi.out.1 HLi.out.2.1 HLi.out.2.2
      have hfb : fnG f.1 f.2.1 f.2.2.1 f.2.2.2 = fnB f := rfl
      rw [hfb] at cg'
      clear hfb
      obtain ⟨p, r, lo, b⟩ := f
      simp only at cg'
      have q1 : (0 : Int) ≤ (i : Int) := by omega
      have q2 : (i : Int) < (F.length : Int) := by omega
      cases hv : fnB (p, r, lo, b) with
      | false =>
        rw [hv] at cg'
        obtain rfl : R = false := by rw [← HG.out]; exact HB.out hv
        clear hv
        go_wp2_with (go_at_call 67; (with_reducible refine (cg' _ (by repeat (first | with_reducible first | exact Below.refl _ _ | refine below_alloc ?_ _ | refine below_drew1 ?_ | refine pw_below_drewN ?_ _))).mono ?_); rintro e w2 ⟨rfl, hb2⟩)
        go_ret
        exact ⟨rfl, below_step HM.out.bel (by repeat (first | with_reducible first | exact Below.refl _ _ | refine below_alloc ?_ _ | refine below_drew1 ?_ | refine pw_below_drewN ?_ _ | refine below_step ?_ hb2))⟩
      | true =>
        rw [hv] at cg'
        have HA3 := Aside0.mk (HA2.out hv)
        clear hv
        go_wp2_with (go_at_call 67; (with_reducible refine (cg' _ (by repeat (first | with_reducible first | exact Below.refl _ _ | refine below_alloc ?_ _ | refine below_drew1 ?_ | refine pw_below_drewN ?_ _))).mono ?_); rintro e w2 ⟨rfl, hb2⟩)
        go_roundg k1
        case measure => omega
        case rel => exact ⟨i + 1, by omega, by rw [Int.natCast_add]; rfl, ⟨MC.below HM.out (by repeat (first | with_reducible first | exact Below.refl _ _ | refine below_alloc ?_ _ | refine below_drew1 ?_ | refine pw_below_drewN ?_ _ | refine below_step ?_ hb2))⟩, HA3⟩
    | zero =>
      obtain rfl : i = F.length := by omega
      have hd : decide ((F.length : Int) < (F.length : Int)) = false := decide_eq_false (by omega)
      obtain ⟨wo, rfl⟩ : ∃ wo : World, wo = wr := ⟨_, rfl⟩
      have HA1 := Aside0.mk (fun j h => HA.out j h h)
      have m1 := HM.out.c1
      clear HA
      go_wp2
      clear hd m1
      go_loopg [31] G.length (fun kq v31 w' => ∃ i : Nat, i + kq = G.length ∧ v31 = .int .i64 i ∧ Aside0 (MC w w' Af cf F.length Ag cg G.length mem pages most start) ∧ Aside0 (∀ j, (h : j < G.length) → j < i → gloB G[j] = true))
      case atStart => exact ⟨0, by omega, rfl, HM, ⟨fun j _ h => absurd h (Nat.not_lt_zero _)⟩⟩
      case round =>
        clear HM
        obtain ⟨i, hi, rfl, HM, HA⟩ := hrel
        cases gk with
        | succ k1 =>
          have hil : i < G.length := by omega
          have hd : decide ((i : Int) < (G.length : Int)) = true := decide_eq_true (by omega)
          obtain ⟨ad, e, hx0, hx1, hx2⟩ := at_gl HR.out.g1 i hil
          subst e
          have hbl := HM.out.bel
          replace hx0 := (hbl.cell (World.block_lt_of_cell? w _ hx0)).trans hx0
          replace hx1 := (hbl.cell (World.block_lt_of_cell? w _ hx1)).trans hx1
          replace hx2 := (hbl.cell (World.block_lt_of_cell? w _ hx2)).trans hx2
          have HB : Aside0 (gloB G[i] = false → gsM F G mem pages most start = false) := ⟨fun h => gs_g i hil h⟩
          have HA2 : Aside0 (gloB G[i] = true → ∀ j, (h : j < G.length) → j < i + 1 → gloB G[j] = true) := ⟨fun h j hj hji => by
            by_cases e : j = i
            · subst e; exact h
            · exact HA.out j hj (by omega)⟩
          clear hbl HA
          generalize G[i] = g at *
          obtain ⟨ty, fx, bt⟩ := g
          simp only at hx0 hx1 hx2
          have q1 : (0 : Int) ≤ (i : Int) := by omega
          have q2 : (i : Int) < (G.length : Int) := by omega
          have cg' := fun W => glo_i (ty, fx, bt) W
          simp only at cg'
          cases hv : gloB (ty, fx, bt) with
          | false =>
            rw [hv] at cg'
            obtain rfl : R = false := by rw [← HG.out]; exact HB.out hv
            clear hv
            go_wp2_with (go_at_call 74; (with_reducible refine (cg' _).mono ?_); rintro e w2 ⟨rfl, hb2⟩)
            go_ret
            exact ⟨rfl, below_step HM.out.bel (by repeat (first | with_reducible first | exact Below.refl _ _ | refine below_alloc ?_ _ | refine below_drew1 ?_ | refine pw_below_drewN ?_ _ | refine below_step ?_ hb2))⟩
          | true =>
            rw [hv] at cg'
            have HA3 := Aside0.mk (HA2.out hv)
            clear hv
            go_wp2_with (go_at_call 74; (with_reducible refine (cg' _).mono ?_); rintro e w2 ⟨rfl, hb2⟩)
            go_roundg k1
            case measure => omega
            case rel => exact ⟨i + 1, by omega, by rw [Int.natCast_add]; rfl, ⟨MC.below HM.out (by repeat (first | with_reducible first | exact Below.refl _ _ | refine below_alloc ?_ _ | refine below_drew1 ?_ | refine pw_below_drewN ?_ _ | refine below_step ?_ hb2))⟩, HA3⟩
        | zero =>
          obtain rfl : i = G.length := by omega
          have hd : decide ((G.length : Int) < (G.length : Int)) = false := decide_eq_false (by omega)
          have HA4 := Aside0.mk (fun j h => HA.out j h h)
          have HK : Aside0 (memB mem pages most = true → stB F start = true → gsM F G mem pages most start = true) := ⟨fun a b => gs_ok zF zG HA1.out HA4.out a b⟩
          have HBL := Aside0.mk HM.out.bel
          have m0 := HM.out.c0
          have m2 := HM.out.c2
          have m3 := HM.out.c3
          have m4 := HM.out.c4
          have m5 := HM.out.c5
          clear HA HA1 HA4 HM
          cases mem with
          | true =>
            by_cases g1 : pages < 0
            · have t6 : decide (pages < 0) = true := decide_eq_true g1
              obtain rfl : R = false := by rw [← HG.out]; exact gs_m (by unfold memB; rw [if_pos rfl]; exact decide_eq_false (by omega))
              go_wp2
              go_ret
              exact ⟨rfl, below_step HBL.out (by repeat (first | with_reducible first | exact Below.refl _ _ | refine below_alloc ?_ _ | refine below_drew1 ?_ | refine pw_below_drewN ?_ _))⟩
            have t6 : decide (pages < 0) = false := decide_eq_false g1
            by_cases g2 : most < pages
            · have t7 : decide (most < pages) = true := decide_eq_true g2
              obtain rfl : R = false := by rw [← HG.out]; exact gs_m (by unfold memB; rw [if_pos rfl]; exact decide_eq_false (by omega))
              go_wp2
              go_ret
              exact ⟨rfl, below_step HBL.out (by repeat (first | with_reducible first | exact Below.refl _ _ | refine below_alloc ?_ _ | refine below_drew1 ?_ | refine pw_below_drewN ?_ _))⟩
            have t7 : decide (most < pages) = false := decide_eq_false g2
            by_cases g3 : 8 < most
            · have t8 : decide (8 < most) = true := decide_eq_true g3
              obtain rfl : R = false := by rw [← HG.out]; exact gs_m (by unfold memB; rw [if_pos rfl]; exact decide_eq_false (by omega))
              go_wp2
              go_ret
              exact ⟨rfl, below_step HBL.out (by repeat (first | with_reducible first | exact Below.refl _ _ | refine below_alloc ?_ _ | refine below_drew1 ?_ | refine pw_below_drewN ?_ _))⟩
            have t8 : decide (8 < most) = false := decide_eq_false g3
            have hmb : Aside0 (memB true pages most = true) := ⟨by unfold memB; rw [if_pos rfl]; exact decide_eq_true (by omega)⟩
            clear g1 g2 g3
            by_cases s1 : start = -1
            · have t1 : (start == -1) = true := beq_iff_eq.2 s1
              obtain rfl : R = true := by rw [← HG.out]; exact HK.out hmb.out (st_one s1)
              go_wp2
              go_ret
              exact ⟨rfl, below_step HBL.out (by repeat (first | with_reducible first | exact Below.refl _ _ | refine below_alloc ?_ _ | refine below_drew1 ?_ | refine pw_below_drewN ?_ _))⟩
            have t1 : (start == -1) = false := beq_eq_false_iff_ne.2 s1
            by_cases s2 : start < 0
            · have t2 : decide (0 ≤ start) = false := decide_eq_false (by omega)
              obtain rfl : R = false := by rw [← HG.out]; exact gs_st (st_out s1 (.inl s2))
              go_wp2
              go_ret
              exact ⟨rfl, below_step HBL.out (by repeat (first | with_reducible first | exact Below.refl _ _ | refine below_alloc ?_ _ | refine below_drew1 ?_ | refine pw_below_drewN ?_ _))⟩
            have t2 : decide (0 ≤ start) = true := decide_eq_true (by omega)
            by_cases s3 : (F.length : Int) ≤ start
            · have t3 : decide (start < (F.length : Int)) = false := decide_eq_false (by omega)
              obtain rfl : R = false := by rw [← HG.out]; exact gs_st (st_out s1 (.inr s3))
              go_wp2
              go_ret
              exact ⟨rfl, below_step HBL.out (by repeat (first | with_reducible first | exact Below.refl _ _ | refine below_alloc ?_ _ | refine below_drew1 ?_ | refine pw_below_drewN ?_ _))⟩
            have t3 : decide (start < (F.length : Int)) = true := decide_eq_true (by omega)
            obtain ⟨s, hs⟩ : ∃ s : Nat, start = s := ⟨start.toNat, by omega⟩
            have hsl : s < F.length := by omega
            obtain ⟨ad, Ap, cp, Al, cl, Ab, cb, e, hx0, hx1, hx2, hx3, hRd⟩ := HR.out.f1 s hsl
            subst e
            have hbl := HBL.out
            replace hx0 := (hbl.cell (World.block_lt_of_cell? w _ hx0)).trans hx0
            replace hx1 := (hbl.cell (World.block_lt_of_cell? w _ hx1)).trans hx1
            have HST : Aside0 (stB F start = (decide (F[s].1.length = 0) && decide (F[s].2.1 = 64))) := ⟨st_in hsl hs⟩
            clear hx2 hx3 hRd hbl
            subst hs
            generalize F[s] = f at *
            obtain ⟨p, r, lo, b⟩ := f
            simp only at hx0 hx1
            have q1 : (0 : Int) ≤ (s : Int) := by omega
            have q2 : (s : Int) < (F.length : Int) := by omega
            by_cases s4 : p.length = 0
            rotate_left
            · have t4 : ((p.length : Int) == 0) = false := beq_eq_false_iff_ne.2 (by omega)
              have t4' : (p.length == 0) = false := beq_eq_false_iff_ne.2 s4
              obtain rfl : R = false := by rw [← HG.out]; exact gs_st (by rw [HST.out, decide_eq_false s4]; rfl)
              go_wp2
              go_ret
              exact ⟨rfl, below_step HBL.out (by repeat (first | with_reducible first | exact Below.refl _ _ | refine below_alloc ?_ _ | refine below_drew1 ?_ | refine pw_below_drewN ?_ _))⟩
            have t4 : ((p.length : Int) == 0) = true := beq_iff_eq.2 (by omega)
            have t4' : (p.length == 0) = true := beq_iff_eq.2 s4
            by_cases s5 : r = 64
            rotate_left
            · have t5 : (r == 64) = false := beq_eq_false_iff_ne.2 s5
              obtain rfl : R = false := by rw [← HG.out]; exact gs_st (by rw [HST.out, decide_eq_false s5, Bool.and_false])
              go_wp2
              go_ret
              exact ⟨rfl, below_step HBL.out (by repeat (first | with_reducible first | exact Below.refl _ _ | refine below_alloc ?_ _ | refine below_drew1 ?_ | refine pw_below_drewN ?_ _))⟩
            have t5 : (r == 64) = true := beq_iff_eq.2 s5
            obtain rfl : R = true := by rw [← HG.out]; exact HK.out hmb.out (by rw [HST.out, decide_eq_true s4, decide_eq_true s5]; rfl)
            go_wp2
            go_ret
            exact ⟨rfl, below_step HBL.out (by repeat (first | with_reducible first | exact Below.refl _ _ | refine below_alloc ?_ _ | refine below_drew1 ?_ | refine pw_below_drewN ?_ _))⟩
          | false =>
            by_cases g1 : pages = 0
            rotate_left
            · have t6 : (pages == 0) = false := beq_eq_false_iff_ne.2 g1
              have t6' : (pages != 0) = true := by rw [bne, t6]; rfl
              obtain rfl : R = false := by rw [← HG.out]; exact gs_m (by unfold memB; rw [if_neg (by decide)]; exact decide_eq_false (by omega))
              go_wp2
              go_ret
              exact ⟨rfl, below_step HBL.out (by repeat (first | with_reducible first | exact Below.refl _ _ | refine below_alloc ?_ _ | refine below_drew1 ?_ | refine pw_below_drewN ?_ _))⟩
            subst g1
            by_cases g2 : most = 0
            rotate_left
            · have t7 : (most == 0) = false := beq_eq_false_iff_ne.2 g2
              have t7' : (most != 0) = true := by rw [bne, t7]; rfl
              obtain rfl : R = false := by rw [← HG.out]; exact gs_m (by unfold memB; rw [if_neg (by decide)]; exact decide_eq_false (by omega))
              go_wp2
              go_ret
              exact ⟨rfl, below_step HBL.out (by repeat (first | with_reducible first | exact Below.refl _ _ | refine below_alloc ?_ _ | refine below_drew1 ?_ | refine pw_below_drewN ?_ _))⟩
            subst g2
            have hmb : Aside0 (memB false 0 0 = true) := ⟨by decide⟩
            by_cases s1 : start = -1
            · have t1 : (start == -1) = true := beq_iff_eq.2 s1
              obtain rfl : R = true := by rw [← HG.out]; exact HK.out hmb.out (st_one s1)
              go_wp2
              go_ret
              exact ⟨rfl, below_step HBL.out (by repeat (first | with_reducible first | exact Below.refl _ _ | refine below_alloc ?_ _ | refine below_drew1 ?_ | refine pw_below_drewN ?_ _))⟩
            have t1 : (start == -1) = false := beq_eq_false_iff_ne.2 s1
            by_cases s2 : start < 0
            · have t2 : decide (0 ≤ start) = false := decide_eq_false (by omega)
              obtain rfl : R = false := by rw [← HG.out]; exact gs_st (st_out s1 (.inl s2))
              go_wp2
              go_ret
              exact ⟨rfl, below_step HBL.out (by repeat (first | with_reducible first | exact Below.refl _ _ | refine below_alloc ?_ _ | refine below_drew1 ?_ | refine pw_below_drewN ?_ _))⟩
            have t2 : decide (0 ≤ start) = true := decide_eq_true (by omega)
            by_cases s3 : (F.length : Int) ≤ start
            · have t3 : decide (start < (F.length : Int)) = false := decide_eq_false (by omega)
              obtain rfl : R = false := by rw [← HG.out]; exact gs_st (st_out s1 (.inr s3))
              go_wp2
              go_ret
              exact ⟨rfl, below_step HBL.out (by repeat (first | with_reducible first | exact Below.refl _ _ | refine below_alloc ?_ _ | refine below_drew1 ?_ | refine pw_below_drewN ?_ _))⟩
            have t3 : decide (start < (F.length : Int)) = true := decide_eq_true (by omega)
            obtain ⟨s, hs⟩ : ∃ s : Nat, start = s := ⟨start.toNat, by omega⟩
            have hsl : s < F.length := by omega
            obtain ⟨ad, Ap, cp, Al, cl, Ab, cb, e, hx0, hx1, hx2, hx3, hRd⟩ := HR.out.f1 s hsl
            subst e
            have hbl := HBL.out
            replace hx0 := (hbl.cell (World.block_lt_of_cell? w _ hx0)).trans hx0
            replace hx1 := (hbl.cell (World.block_lt_of_cell? w _ hx1)).trans hx1
            have HST : Aside0 (stB F start = (decide (F[s].1.length = 0) && decide (F[s].2.1 = 64))) := ⟨st_in hsl hs⟩
            clear hx2 hx3 hRd hbl
            subst hs
            generalize F[s] = f at *
            obtain ⟨p, r, lo, b⟩ := f
            simp only at hx0 hx1
            have q1 : (0 : Int) ≤ (s : Int) := by omega
            have q2 : (s : Int) < (F.length : Int) := by omega
            by_cases s4 : p.length = 0
            rotate_left
            · have t4 : ((p.length : Int) == 0) = false := beq_eq_false_iff_ne.2 (by omega)
              have t4' : (p.length == 0) = false := beq_eq_false_iff_ne.2 s4
              obtain rfl : R = false := by rw [← HG.out]; exact gs_st (by rw [HST.out, decide_eq_false s4]; rfl)
              go_wp2
              go_ret
              exact ⟨rfl, below_step HBL.out (by repeat (first | with_reducible first | exact Below.refl _ _ | refine below_alloc ?_ _ | refine below_drew1 ?_ | refine pw_below_drewN ?_ _))⟩
            have t4 : ((p.length : Int) == 0) = true := beq_iff_eq.2 (by omega)
            have t4' : (p.length == 0) = true := beq_iff_eq.2 s4
            by_cases s5 : r = 64
            rotate_left
            · have t5 : (r == 64) = false := beq_eq_false_iff_ne.2 s5
              obtain rfl : R = false := by rw [← HG.out]; exact gs_st (by rw [HST.out, decide_eq_false s5, Bool.and_false])
              go_wp2
              go_ret
              exact ⟨rfl, below_step HBL.out (by repeat (first | with_reducible first | exact Below.refl _ _ | refine below_alloc ?_ _ | refine below_drew1 ?_ | refine pw_below_drewN ?_ _))⟩
            have t5 : (r == 64) = true := beq_iff_eq.2 s5
            obtain rfl : R = true := by rw [← HG.out]; exact HK.out hmb.out (by rw [HST.out, decide_eq_true s4, decide_eq_true s5]; rfl)
            go_wp2
            go_ret
            exact ⟨rfl, below_step HBL.out (by repeat (first | with_reducible first | exact Below.refl _ _ | refine below_alloc ?_ _ | refine below_drew1 ?_ | refine pw_below_drewN ?_ _))⟩
end Go.Proofs.Ytfhnffondamhdaa.OwnGsI
namespace Go.Proofs.Ytfhnffondamhdaa.OwnGsS
open Go Go.RowKit Go.Proofs.YtfhnffondamhdaaW.PrintWords Go.Proofs.YtfhnffondamhdaaW.PrintLast Go.Proofs.YtfhnffondamhdaaW.PrintMore Go.Proofs.Ytfhnffondamhdaa.OwnBs Go.Proofs.Ytfhnffondamhdaa.OwnKp Go.Proofs.Ytfhnffondamhdaa.OwnCode Go.Proofs.Ytfhnffondamhdaa.OwnSt Go.Proofs.Ytfhnffondamhdaa.OwnFn Go.Proofs.Ytfhnffondamhdaa.OwnFs Go.Proofs.Ytfhnffondamhdaa.OwnMd Go.Proofs.Ytfhnffondamhdaa.OwnGs
set_option linter.unusedVariables false
set_option linter.unusedSimpArgs false
set_option maxRecDepth 100000 in
set_option maxHeartbeats 20000000 in
theorem gsh_s (Af : Option Addr) (cf : Nat) (F : List Rec) (Ag : Option Addr) (cg : Nat) (G : List Glo) (mem : Bool) (pages most start : Int) (w : World) (hr : MdR w Af cf F Ag cg G) (hF : F.length ≤ 1048576) (hf : ∀ f ∈ F, lens f) (hG : G.length ≤ 1048576) (hS : -9223372036854775808 ≤ start) (hS2 : start ≤ 9223372036854775807) : Calls Try.prog 29 #[mdV Af cf F Ag cg G mem pages most start] w fun e w' => e = .returned (.bool (gsM F G mem pages most start)) ∧ Below w.heap.size w w' := by
  have HR := Aside0.mk hr
  have HL := Aside0.mk hf
  generalize hgs : gsM F G mem pages most start = R
  have HG := Aside0.mk hgs
  clear hr hf hgs
  by_cases zF : F.length ≤ 10
  rotate_left
  · obtain rfl : R = false := by rw [← HG.out]; exact gs_l1 zF
    have d1 : decide ((10 : Int) < (F.length : Int)) = true := decide_eq_true (by omega)
    have d2 : decide (10 < F.length) = true := decide_eq_true (by omega)
    go_enter Try.func29, Try.ntmps29
    go_wp2
    go_ret
    exact ⟨rfl, (by repeat (first | with_reducible first | exact Below.refl _ _ | refine below_alloc ?_ _ | refine below_drew1 ?_ | refine pw_below_drewN ?_ _))⟩
  by_cases zG : G.length ≤ 6
  rotate_left
  · obtain rfl : R = false := by rw [← HG.out]; exact gs_l2 zG
    have d1 : decide ((10 : Int) < (F.length : Int)) = false := decide_eq_false (by omega)
    have d2 : decide (10 < F.length) = false := decide_eq_false (by omega)
    have d3 : decide ((6 : Int) < (G.length : Int)) = true := decide_eq_true (by omega)
    have d4 : decide (6 < G.length) = true := decide_eq_true (by omega)
    go_enter Try.func29, Try.ntmps29
    go_wp2
    go_ret
    exact ⟨rfl, (by repeat (first | with_reducible first | exact Below.refl _ _ | refine below_alloc ?_ _ | refine below_drew1 ?_ | refine pw_below_drewN ?_ _))⟩
  have d1 : decide ((10 : Int) < (F.length : Int)) = false := decide_eq_false (by omega)
  have d2 : decide (10 < F.length) = false := decide_eq_false (by omega)
  have d3 : decide ((6 : Int) < (G.length : Int)) = false := decide_eq_false (by omega)
  have d4 : decide (6 < G.length) = false := decide_eq_false (by omega)
  go_enter Try.func29, Try.ntmps29
  go_wp2
  clear d1 d2 d3 d4
  have HM0 : Aside0 (MC w (w.alloc (.cells #[.slice Af F.length cf, .slice Ag G.length cg, .bool mem, .int .i64 pages, .int .i64 most, .int .i64 start] 37)) Af cf F.length Ag cg G.length mem pages most start) := ⟨⟨by go_simp, by go_simp, by go_simp, by go_simp, by go_simp, by go_simp, by simp, (by repeat (first | with_reducible first | exact Below.refl _ _ | refine below_alloc ?_ _ | refine below_drew1 ?_ | refine pw_below_drewN ?_ _))⟩⟩
  go_loopg [20] F.length (fun kq v20 w' => ∃ i : Nat, i + kq = F.length ∧ v20 = .int .i64 i ∧ Aside0 (MC w w' Af cf F.length Ag cg G.length mem pages most start) ∧ Aside0 (∀ j, (h : j < F.length) → j < i → fnB F[j] = true))
  case atStart => exact ⟨0, by omega, rfl, HM0, ⟨fun j _ h => absurd h (Nat.not_lt_zero _)⟩⟩
  case round =>
    clear HM0
    obtain ⟨i, hi, rfl, HM, HA⟩ := hrel
    cases gk with
    | succ k1 =>
      have hil : i < F.length := by omega
      have hd : decide ((i : Int) < (F.length : Int)) = true := decide_eq_true (by omega)
      obtain ⟨ad, Ap, cp, Al, cl, Ab, cb, e, hx0, hx1, hx2, hx3, hRd⟩ := HR.out.f1 i hil
      subst e
      have hbl := HM.out.bel
      replace hx0 := (hbl.cell (World.block_lt_of_cell? w _ hx0)).trans hx0
      replace hx1 := (hbl.cell (World.block_lt_of_cell? w _ hx1)).trans hx1
      replace hx2 := (hbl.cell (World.block_lt_of_cell? w _ hx2)).trans hx2
      replace hx3 := (hbl.cell (World.block_lt_of_cell? w _ hx3)).trans hx3
      have HRd := Aside0.mk (FnR.below hRd hbl)
      have HLi := Aside0.mk (HL.out F[i] (List.getElem_mem hil))
      have HB : Aside0 (fnB F[i] = false → gsM F G mem pages most start = false) := ⟨fun h => gs_f i hil h⟩
      have HA2 : Aside0 (fnB F[i] = true → ∀ j, (h : j < F.length) → j < i + 1 → fnB F[j] = true) := ⟨fun h j hj hji => by
        by_cases e : j = i
        · subst e; exact h
        · exact HA.out j hj (by omega)⟩
      clear hRd hbl HA
      generalize F[i] = f at *
      have cg' := fun W (B : Below wr.heap.size wr W) => good_fn_s Ap cp f.1 f.2.1 Al cl f.2.2.1 Ab cb f.2.2.2 W (FnR.below HRd.out B) HLi.out.1 HLi.out.2.1 HLi.out.2.2
      have hfb : fnG f.1 f.2.1 f.2.2.1 f.2.2.2 = fnB f := rfl
      rw [hfb] at cg'
      clear hfb
      obtain ⟨p, r, lo, b⟩ := f
      simp only at cg'
      have q1 : (0 : Int) ≤ (i : Int) := by omega
      have q2 : (i : Int) < (F.length : Int) := by omega
      cases hv : fnB (p, r, lo, b) with
      | false =>
        rw [hv] at cg'
        obtain rfl : R = false := by rw [← HG.out]; exact HB.out hv
        clear hv
        go_wp2_with (go_at_call 63; (with_reducible refine (cg' _ (by repeat (first | with_reducible first | exact Below.refl _ _ | refine below_alloc ?_ _ | refine below_drew1 ?_ | refine pw_below_drewN ?_ _))).mono ?_); rintro e w2 ⟨rfl, hb2⟩)
        go_ret
        exact ⟨rfl, below_step HM.out.bel (by repeat (first | with_reducible first | exact Below.refl _ _ | refine below_alloc ?_ _ | refine below_drew1 ?_ | refine pw_below_drewN ?_ _ | refine below_step ?_ hb2))⟩
      | true =>
        rw [hv] at cg'
        have HA3 := Aside0.mk (HA2.out hv)
        clear hv
        go_wp2_with (go_at_call 63; (with_reducible refine (cg' _ (by repeat (first | with_reducible first | exact Below.refl _ _ | refine below_alloc ?_ _ | refine below_drew1 ?_ | refine pw_below_drewN ?_ _))).mono ?_); rintro e w2 ⟨rfl, hb2⟩)
        go_roundg k1
        case measure => omega
        case rel => exact ⟨i + 1, by omega, by rw [Int.natCast_add]; rfl, ⟨MC.below HM.out (by repeat (first | with_reducible first | exact Below.refl _ _ | refine below_alloc ?_ _ | refine below_drew1 ?_ | refine pw_below_drewN ?_ _ | refine below_step ?_ hb2))⟩, HA3⟩
    | zero =>
      obtain rfl : i = F.length := by omega
      have hd : decide ((F.length : Int) < (F.length : Int)) = false := decide_eq_false (by omega)
      obtain ⟨wo, rfl⟩ : ∃ wo : World, wo = wr := ⟨_, rfl⟩
      have HA1 := Aside0.mk (fun j h => HA.out j h h)
      have m1 := HM.out.c1
      clear HA
      go_wp2
      clear hd m1
      go_loopg [31] G.length (fun kq v31 w' => ∃ i : Nat, i + kq = G.length ∧ v31 = .int .i64 i ∧ Aside0 (MC w w' Af cf F.length Ag cg G.length mem pages most start) ∧ Aside0 (∀ j, (h : j < G.length) → j < i → gloB G[j] = true))
      case atStart => exact ⟨0, by omega, rfl, HM, ⟨fun j _ h => absurd h (Nat.not_lt_zero _)⟩⟩
      case round =>
        clear HM
        obtain ⟨i, hi, rfl, HM, HA⟩ := hrel
        cases gk with
        | succ k1 =>
          have hil : i < G.length := by omega
          have hd : decide ((i : Int) < (G.length : Int)) = true := decide_eq_true (by omega)
          obtain ⟨ad, e, hx0, hx1, hx2⟩ := at_gl HR.out.g1 i hil
          subst e
          have hbl := HM.out.bel
          replace hx0 := (hbl.cell (World.block_lt_of_cell? w _ hx0)).trans hx0
          replace hx1 := (hbl.cell (World.block_lt_of_cell? w _ hx1)).trans hx1
          replace hx2 := (hbl.cell (World.block_lt_of_cell? w _ hx2)).trans hx2
          have HB : Aside0 (gloB G[i] = false → gsM F G mem pages most start = false) := ⟨fun h => gs_g i hil h⟩
          have HA2 : Aside0 (gloB G[i] = true → ∀ j, (h : j < G.length) → j < i + 1 → gloB G[j] = true) := ⟨fun h j hj hji => by
            by_cases e : j = i
            · subst e; exact h
            · exact HA.out j hj (by omega)⟩
          clear hbl HA
          generalize G[i] = g at *
          obtain ⟨ty, fx, bt⟩ := g
          simp only at hx0 hx1 hx2
          have q1 : (0 : Int) ≤ (i : Int) := by omega
          have q2 : (i : Int) < (G.length : Int) := by omega
          have cg' := fun W => ty_sn ty W
          cases hv : tyB ty with
          | false =>
            rw [hv] at cg'
            obtain rfl : R = false := by rw [← HG.out]; exact HB.out (by unfold gloB; simp only; rw [hv]; rfl)
            clear hv
            go_wp2_with (go_at_call 72; (with_reducible refine (cg' _).mono ?_); rintro e w2 ⟨rfl, n2, rfl⟩)
            go_ret
            exact ⟨rfl, below_step HM.out.bel (by repeat (first | with_reducible first | exact Below.refl _ _ | refine below_alloc ?_ _ | refine below_drew1 ?_ | refine pw_below_drewN ?_ _))⟩
          | true =>
            rw [hv] at cg'
            by_cases e1 : ty = 126
            · subst e1
              have HA3 := Aside0.mk (HA2.out (by unfold gloB; simp only; rw [hv]; rfl))
              clear hv
              go_wp2_with (go_at_call 72; (with_reducible refine (cg' _).mono ?_); rintro e w2 ⟨rfl, n2, rfl⟩)
              go_roundg k1
              case measure => omega
              case rel => exact ⟨i + 1, by omega, by rw [Int.natCast_add]; rfl, ⟨MC.below HM.out (by repeat (first | with_reducible first | exact Below.refl _ _ | refine below_alloc ?_ _ | refine below_drew1 ?_ | refine pw_below_drewN ?_ _))⟩, HA3⟩
            · have d1 : (ty == 126) = false := beq_eq_false_iff_ne.2 e1
              have d1' : (ty != 126) = true := by rw [bne, d1]; rfl
              by_cases e2 : bt ≤ 4294967295
              · have d2 : decide (4294967295 < bt) = false := decide_eq_false (by omega)
                have HA3 := Aside0.mk (HA2.out (by unfold gloB; simp only; rw [hv, decide_eq_true e2, Bool.or_true]; rfl))
                clear hv
                go_wp2_with (go_at_call 72; (with_reducible refine (cg' _).mono ?_); rintro e w2 ⟨rfl, n2, rfl⟩)
                go_roundg k1
                case measure => omega
                case rel => exact ⟨i + 1, by omega, by rw [Int.natCast_add]; rfl, ⟨MC.below HM.out (by repeat (first | with_reducible first | exact Below.refl _ _ | refine below_alloc ?_ _ | refine below_drew1 ?_ | refine pw_below_drewN ?_ _))⟩, HA3⟩
              · have d2 : decide (4294967295 < bt) = true := decide_eq_true (by omega)
                obtain rfl : R = false := by rw [← HG.out]; exact HB.out (by unfold gloB; simp only; rw [hv, decide_eq_false e1, decide_eq_false e2]; rfl)
                clear hv
                go_wp2_with (go_at_call 72; (with_reducible refine (cg' _).mono ?_); rintro e w2 ⟨rfl, n2, rfl⟩)
                go_ret
                exact ⟨rfl, below_step HM.out.bel (by repeat (first | with_reducible first | exact Below.refl _ _ | refine below_alloc ?_ _ | refine below_drew1 ?_ | refine pw_below_drewN ?_ _))⟩
        | zero =>
          obtain rfl : i = G.length := by omega
          have hd : decide ((G.length : Int) < (G.length : Int)) = false := decide_eq_false (by omega)
          have HA4 := Aside0.mk (fun j h => HA.out j h h)
          have HK : Aside0 (memB mem pages most = true → stB F start = true → gsM F G mem pages most start = true) := ⟨fun a b => gs_ok zF zG HA1.out HA4.out a b⟩
          have HBL := Aside0.mk HM.out.bel
          have m0 := HM.out.c0
          have m2 := HM.out.c2
          have m3 := HM.out.c3
          have m4 := HM.out.c4
          have m5 := HM.out.c5
          clear HA HA1 HA4 HM
          cases mem with
          | true =>
            by_cases g1 : 0 ≤ most ∧ most ≤ 8
            rotate_left
            · have cm := fun W => in_n most 0 8 W
              rw [decide_eq_false g1] at cm
              obtain rfl : R = false := by rw [← HG.out]; exact gs_m (by unfold memB; rw [if_pos rfl]; exact decide_eq_false (by omega))
              go_wp2_with (go_at_call 73; (with_reducible refine (cm _).mono ?_); rintro e w9 ⟨rfl, nz, rfl⟩)
              go_ret
              exact ⟨rfl, below_step HBL.out (by repeat (first | with_reducible first | exact Below.refl _ _ | refine below_alloc ?_ _ | refine below_drew1 ?_ | refine pw_below_drewN ?_ _))⟩
            have cm := fun W => in_n most 0 8 W
            rw [decide_eq_true g1] at cm
            by_cases g2 : 0 ≤ pages ∧ pages ≤ most
            rotate_left
            · have cq := fun W => in_n pages 0 most W
              rw [decide_eq_false g2] at cq
              obtain rfl : R = false := by rw [← HG.out]; exact gs_m (by unfold memB; rw [if_pos rfl]; exact decide_eq_false (by omega))
              go_wp2_with (first | (go_at_call 73; (with_reducible refine (cm _).mono ?_); rintro e w8 ⟨rfl, nz8, rfl⟩) | (go_at_call 73; (with_reducible refine (cq _).mono ?_); rintro e w9 ⟨rfl, nz9, rfl⟩))
              go_ret
              exact ⟨rfl, below_step HBL.out (by repeat (first | with_reducible first | exact Below.refl _ _ | refine below_alloc ?_ _ | refine below_drew1 ?_ | refine pw_below_drewN ?_ _))⟩
            have cq := fun W => in_n pages 0 most W
            rw [decide_eq_true g2] at cq
            have hmb : Aside0 (memB true pages most = true) := ⟨by unfold memB; rw [if_pos rfl]; exact decide_eq_true (by omega)⟩
            clear g1 g2
            by_cases s1 : start = -1
            · have t1 : (start == -1) = true := beq_iff_eq.2 s1
              obtain rfl : R = true := by rw [← HG.out]; exact HK.out hmb.out (st_one s1)
              go_wp2_with (first | (go_at_call 73; (with_reducible refine (cm _).mono ?_); rintro e w8 ⟨rfl, nz8, rfl⟩) | (go_at_call 73; (with_reducible refine (cq _).mono ?_); rintro e w7 ⟨rfl, nz7, rfl⟩))
              go_ret
              exact ⟨rfl, below_step HBL.out (by repeat (first | with_reducible first | exact Below.refl _ _ | refine below_alloc ?_ _ | refine below_drew1 ?_ | refine pw_below_drewN ?_ _))⟩
            have t1 : (start == -1) = false := beq_eq_false_iff_ne.2 s1
            by_cases s2 : start < 0 ∨ (F.length : Int) ≤ start
            · have t2 : decide (0 ≤ start ∧ start ≤ (F.length : Int) - 1) = false := decide_eq_false (by omega)
              have t2' : (decide (0 ≤ start) && decide (start ≤ (F.length : Int) - 1)) = false := by rw [← t2, Bool.decide_and]
              have c9 := fun W => in_n start 0 ((F.length : Int) - 1) W
              rw [t2] at c9
              clear t2 t2'
              obtain rfl : R = false := by rw [← HG.out]; exact gs_st (st_out s1 s2)
              go_wp2_with (first | (go_at_call 73; (with_reducible refine (c9 _).mono ?_); rintro e w9 ⟨rfl, nz, rfl⟩) | (go_at_call 73; (with_reducible refine (cm _).mono ?_); rintro e w8 ⟨rfl, nz8, rfl⟩) | (go_at_call 73; (with_reducible refine (cq _).mono ?_); rintro e w7 ⟨rfl, nz7, rfl⟩))
              go_ret
              exact ⟨rfl, below_step HBL.out (by repeat (first | with_reducible first | exact Below.refl _ _ | refine below_alloc ?_ _ | refine below_drew1 ?_ | refine pw_below_drewN ?_ _))⟩
            have t2 : decide (0 ≤ start ∧ start ≤ (F.length : Int) - 1) = true := decide_eq_true (by omega)
            have c9 := fun W => in_n start 0 ((F.length : Int) - 1) W
            rw [t2] at c9
            clear t2
            obtain ⟨s, hs⟩ : ∃ s : Nat, start = s := ⟨start.toNat, by omega⟩
            have hsl : s < F.length := by omega
            obtain ⟨ad, Ap, cp, Al, cl, Ab, cb, e, hx0, hx1, hx2, hx3, hRd⟩ := HR.out.f1 s hsl
            subst e
            have hbl := HBL.out
            replace hx0 := (hbl.cell (World.block_lt_of_cell? w _ hx0)).trans hx0
            replace hx1 := (hbl.cell (World.block_lt_of_cell? w _ hx1)).trans hx1
            have HST : Aside0 (stB F start = (decide (F[s].1.length = 0) && decide (F[s].2.1 = 64))) := ⟨st_in hsl hs⟩
            clear hx2 hx3 hRd hbl
            subst hs
            generalize F[s] = f at *
            obtain ⟨p, r, lo, b⟩ := f
            simp only at hx0 hx1
            have q1 : (0 : Int) ≤ (s : Int) := by omega
            have q2 : (s : Int) < (F.length : Int) := by omega
            by_cases s4 : p.length = 0
            rotate_left
            · have t4 : ((p.length : Int) == 0) = false := beq_eq_false_iff_ne.2 (by omega)
              have t4' : (p.length == 0) = false := beq_eq_false_iff_ne.2 s4
              obtain rfl : R = false := by rw [← HG.out]; exact gs_st (by rw [HST.out, decide_eq_false s4]; rfl)
              go_wp2_with (first | (go_at_call 73; (with_reducible refine (c9 _).mono ?_); rintro e w9 ⟨rfl, nz, rfl⟩) | (go_at_call 73; (with_reducible refine (cm _).mono ?_); rintro e w8 ⟨rfl, nz8, rfl⟩) | (go_at_call 73; (with_reducible refine (cq _).mono ?_); rintro e w7 ⟨rfl, nz7, rfl⟩))
              go_ret
              exact ⟨rfl, below_step HBL.out (by repeat (first | with_reducible first | exact Below.refl _ _ | refine below_alloc ?_ _ | refine below_drew1 ?_ | refine pw_below_drewN ?_ _))⟩
            have t4 : ((p.length : Int) == 0) = true := beq_iff_eq.2 (by omega)
            have t4' : (p.length == 0) = true := beq_iff_eq.2 s4
            by_cases s5 : r = 64
            rotate_left
            · have t5 : (r == 64) = false := beq_eq_false_iff_ne.2 s5
              obtain rfl : R = false := by rw [← HG.out]; exact gs_st (by rw [HST.out, decide_eq_false s5, Bool.and_false])
              go_wp2_with (first | (go_at_call 73; (with_reducible refine (c9 _).mono ?_); rintro e w9 ⟨rfl, nz, rfl⟩) | (go_at_call 73; (with_reducible refine (cm _).mono ?_); rintro e w8 ⟨rfl, nz8, rfl⟩) | (go_at_call 73; (with_reducible refine (cq _).mono ?_); rintro e w7 ⟨rfl, nz7, rfl⟩))
              go_ret
              exact ⟨rfl, below_step HBL.out (by repeat (first | with_reducible first | exact Below.refl _ _ | refine below_alloc ?_ _ | refine below_drew1 ?_ | refine pw_below_drewN ?_ _))⟩
            have t5 : (r == 64) = true := beq_iff_eq.2 s5
            obtain rfl : R = true := by rw [← HG.out]; exact HK.out hmb.out (by rw [HST.out, decide_eq_true s4, decide_eq_true s5]; rfl)
            go_wp2_with (first | (go_at_call 73; (with_reducible refine (c9 _).mono ?_); rintro e w9 ⟨rfl, nz, rfl⟩) | (go_at_call 73; (with_reducible refine (cm _).mono ?_); rintro e w8 ⟨rfl, nz8, rfl⟩) | (go_at_call 73; (with_reducible refine (cq _).mono ?_); rintro e w7 ⟨rfl, nz7, rfl⟩))
            go_ret
            exact ⟨rfl, below_step HBL.out (by repeat (first | with_reducible first | exact Below.refl _ _ | refine below_alloc ?_ _ | refine below_drew1 ?_ | refine pw_below_drewN ?_ _))⟩
          | false =>
            by_cases g1 : pages = 0
            rotate_left
            · have t6 : (pages == 0) = false := beq_eq_false_iff_ne.2 g1
              have t6' : (pages != 0) = true := by rw [bne, t6]; rfl
              obtain rfl : R = false := by rw [← HG.out]; exact gs_m (by unfold memB; rw [if_neg (by decide)]; exact decide_eq_false (by omega))
              go_wp2
              go_ret
              exact ⟨rfl, below_step HBL.out (by repeat (first | with_reducible first | exact Below.refl _ _ | refine below_alloc ?_ _ | refine below_drew1 ?_ | refine pw_below_drewN ?_ _))⟩
            subst g1
            by_cases g2 : most = 0
            rotate_left
            · have t7 : (most == 0) = false := beq_eq_false_iff_ne.2 g2
              have t7' : (most != 0) = true := by rw [bne, t7]; rfl
              obtain rfl : R = false := by rw [← HG.out]; exact gs_m (by unfold memB; rw [if_neg (by decide)]; exact decide_eq_false (by omega))
              go_wp2
              go_ret
              exact ⟨rfl, below_step HBL.out (by repeat (first | with_reducible first | exact Below.refl _ _ | refine below_alloc ?_ _ | refine below_drew1 ?_ | refine pw_below_drewN ?_ _))⟩
            subst g2
            have hmb : Aside0 (memB false 0 0 = true) := ⟨by decide⟩
            by_cases s1 : start = -1
            · have t1 : (start == -1) = true := beq_iff_eq.2 s1
              obtain rfl : R = true := by rw [← HG.out]; exact HK.out hmb.out (st_one s1)
              go_wp2
              go_ret
              exact ⟨rfl, below_step HBL.out (by repeat (first | with_reducible first | exact Below.refl _ _ | refine below_alloc ?_ _ | refine below_drew1 ?_ | refine pw_below_drewN ?_ _))⟩
            have t1 : (start == -1) = false := beq_eq_false_iff_ne.2 s1
            by_cases s2 : start < 0 ∨ (F.length : Int) ≤ start
            · have t2 : decide (0 ≤ start ∧ start ≤ (F.length : Int) - 1) = false := decide_eq_false (by omega)
              have t2' : (decide (0 ≤ start) && decide (start ≤ (F.length : Int) - 1)) = false := by rw [← t2, Bool.decide_and]
              have c9 := fun W => in_n start 0 ((F.length : Int) - 1) W
              rw [t2] at c9
              clear t2 t2'
              obtain rfl : R = false := by rw [← HG.out]; exact gs_st (st_out s1 s2)
              go_wp2_with (first | (go_at_call 73; (with_reducible refine (c9 _).mono ?_); rintro e w9 ⟨rfl, nz, rfl⟩))
              go_ret
              exact ⟨rfl, below_step HBL.out (by repeat (first | with_reducible first | exact Below.refl _ _ | refine below_alloc ?_ _ | refine below_drew1 ?_ | refine pw_below_drewN ?_ _))⟩
            have t2 : decide (0 ≤ start ∧ start ≤ (F.length : Int) - 1) = true := decide_eq_true (by omega)
            have c9 := fun W => in_n start 0 ((F.length : Int) - 1) W
            rw [t2] at c9
            clear t2
            obtain ⟨s, hs⟩ : ∃ s : Nat, start = s := ⟨start.toNat, by omega⟩
            have hsl : s < F.length := by omega
            obtain ⟨ad, Ap, cp, Al, cl, Ab, cb, e, hx0, hx1, hx2, hx3, hRd⟩ := HR.out.f1 s hsl
            subst e
            have hbl := HBL.out
            replace hx0 := (hbl.cell (World.block_lt_of_cell? w _ hx0)).trans hx0
            replace hx1 := (hbl.cell (World.block_lt_of_cell? w _ hx1)).trans hx1
            have HST : Aside0 (stB F start = (decide (F[s].1.length = 0) && decide (F[s].2.1 = 64))) := ⟨st_in hsl hs⟩
            clear hx2 hx3 hRd hbl
            subst hs
            generalize F[s] = f at *
            obtain ⟨p, r, lo, b⟩ := f
            simp only at hx0 hx1
            have q1 : (0 : Int) ≤ (s : Int) := by omega
            have q2 : (s : Int) < (F.length : Int) := by omega
            by_cases s4 : p.length = 0
            rotate_left
            · have t4 : ((p.length : Int) == 0) = false := beq_eq_false_iff_ne.2 (by omega)
              have t4' : (p.length == 0) = false := beq_eq_false_iff_ne.2 s4
              obtain rfl : R = false := by rw [← HG.out]; exact gs_st (by rw [HST.out, decide_eq_false s4]; rfl)
              go_wp2_with (first | (go_at_call 73; (with_reducible refine (c9 _).mono ?_); rintro e w9 ⟨rfl, nz, rfl⟩))
              go_ret
              exact ⟨rfl, below_step HBL.out (by repeat (first | with_reducible first | exact Below.refl _ _ | refine below_alloc ?_ _ | refine below_drew1 ?_ | refine pw_below_drewN ?_ _))⟩
            have t4 : ((p.length : Int) == 0) = true := beq_iff_eq.2 (by omega)
            have t4' : (p.length == 0) = true := beq_iff_eq.2 s4
            by_cases s5 : r = 64
            rotate_left
            · have t5 : (r == 64) = false := beq_eq_false_iff_ne.2 s5
              obtain rfl : R = false := by rw [← HG.out]; exact gs_st (by rw [HST.out, decide_eq_false s5, Bool.and_false])
              go_wp2_with (first | (go_at_call 73; (with_reducible refine (c9 _).mono ?_); rintro e w9 ⟨rfl, nz, rfl⟩))
              go_ret
              exact ⟨rfl, below_step HBL.out (by repeat (first | with_reducible first | exact Below.refl _ _ | refine below_alloc ?_ _ | refine below_drew1 ?_ | refine pw_below_drewN ?_ _))⟩
            have t5 : (r == 64) = true := beq_iff_eq.2 s5
            obtain rfl : R = true := by rw [← HG.out]; exact HK.out hmb.out (by rw [HST.out, decide_eq_true s4, decide_eq_true s5]; rfl)
            go_wp2_with (first | (go_at_call 73; (with_reducible refine (c9 _).mono ?_); rintro e w9 ⟨rfl, nz, rfl⟩))
            go_ret
            exact ⟨rfl, below_step HBL.out (by repeat (first | with_reducible first | exact Below.refl _ _ | refine below_alloc ?_ _ | refine below_drew1 ?_ | refine pw_below_drewN ?_ _))⟩
end Go.Proofs.Ytfhnffondamhdaa.OwnGsS
