/- Rows of bytes of a call's own: made, appended to, turned to a text; lemmas for walks of our own; no condition of its own. -/
import Derived.Test.YtchjmkofdiejhaaDoorPlainA
import Derived.Test.YtchjmkofdiejhaaDoorProg
import Derived.Outline
import Derived.WalkKit
import Derived.Lib.Hide
import Derived.RegionTactic
import Derived.ChangeAlike
import Derived.Deep.QuietTactic
import Derived.Deep.DeepCutAuto
import Derived.Deep.LoopGhost
import Derived.BigQuiet
namespace Go.Proofs.YtchjmkofdiejhaaDoor.OwnBs
open Go Go.RowKit Go.Proofs.YtchjmkofdiejhaaDoorW.PrintWords Go.Proofs.YtchjmkofdiejhaaDoorW.PrintLast Go.Proofs.YtchjmkofdiejhaaDoorW.PrintMore
set_option linter.unusedVariables false
set_option linter.unusedSimpArgs false
theorem bcell {W w1 : World} (hb : Below W.heap.size W w1) : (∀ b o, b < W.heap.size → w1.cell? ⟨b, o, none⟩ = W.cell? ⟨b, o, none⟩) ∧ (∀ b o, b < W.heap.size → w1.frozen? ⟨b, o, none⟩ = W.frozen? ⟨b, o, none⟩) :=
  ⟨fun b o h => hb.cell (p := ⟨b, o, none⟩) h, fun b o h => hb.frozen (p := ⟨b, o, none⟩) h⟩
theorem info_u8 : (Tryd.prog.info? 5).map (fun i => (i.zero, i.size, i.bytes)) = some (some (.int .u8 0), 1, 1) := by kernel_rfl
/-- v is a row of bytes of the call's own (the call began at w0), and reads as l. -/
structure Bs (w0 w : World) (v : Value) (l : List Int) : Prop where
  own : w.ownsRow w0.heap.size 5 1 v l.length (nums .u8 l)
  bel : Below w0.heap.size w0 w
theorem Bs.alloc {w0 w : World} {v : Value} {l : List Int} (h : Bs w0 w v l) (o : Obj) : Bs w0 (w.alloc o) v l := ⟨h.own.alloc o, below_alloc h.bel o⟩
theorem Bs.drew {w0 w : World} {v : Value} {l : List Int} (h : Bs w0 w v l) : Bs w0 w.drew v l := ⟨own_drew h.own, below_drew1 h.bel⟩
theorem Bs.drewN {w0 w : World} {v : Value} {l : List Int} (h : Bs w0 w v l) (n : Nat) : Bs w0 (w.drewN n) v l := ⟨h.own, pw_below_drewN h.bel n⟩
theorem Bs.below {w0 w w1 : World} {v : Value} {l : List Int} (h : Bs w0 w v l) (hb : Below w.heap.size w w1) : Bs w0 w1 v l := ⟨pw_own_below h.own hb, below_step h.bel hb⟩
theorem Bs.form {w0 w : World} {v : Value} {l : List Int} (h : Bs w0 w v l) : ∃ A c, v = .slice A l.length c := own_slice h.own
theorem Bs.reads {w0 w : World} {v : Value} {l : List Int} (h : Bs w0 w v l) : ∃ A c, v = .slice A l.length c ∧ ReadsInt w .u8 A l.length l := own_reads h.own
theorem Bs.nil {w0 w : World} (h : Below w0.heap.size w0 w) : Bs w0 w (.slice none 0 0) [] := ⟨own_nil _ _ _ _, h⟩
theorem Bs.lit {w0 w : World} (h : Below w0.heap.size w0 w) (l : List Int) (hl : l.length ≤ 1000000) : Bs w0 (w.alloc (.cells (nums .u8 l).toArray 5)) (.slice (some ⟨w.heap.size, 0, none⟩) l.length l.length) l :=
  ⟨own_lit w _ _ .u8 l h.size (by omega), below_alloc h _⟩
theorem Bs.up {w0 w1 w : World} {v : Value} {l : List Int} (h0 : Below w0.heap.size w0 w1) (h : Bs w1 w v l) : Bs w0 w v l := ⟨by
  have := h.own
  refine ⟨this.1, ?_⟩
  rcases this.2 with h | ⟨g, cap, cur, h1, h2, h3⟩
  · exact .inl h
  · exact .inr ⟨g, cap, cur, h1, Nat.le_trans h0.size h2, h3⟩, below_step h0 h.bel⟩
section
variable {ops : Array Oper} {rest : List Oper} {o : Oper} {a : Act} {Q : Exit → Act → World → Prop}
/-- append(v, ys...), ys laid in a new block just now. -/
theorem app_lit {w0 W : World} (hgd : o.guard = none) (s x : Operand) (ho : o.op = .call { callee := .builtin .append, args := #[s, x], argTypes := #[22, 22] })
    (v : Value) (l ys : List Int) (hs : a.eval s = v) (hx : a.eval x = .slice (some ⟨W.heap.size, 0, none⟩) ys.length ys.length) (HB : Bs w0 W v l) (hl : l.length + ys.length ≤ 1000000)
    (h : ∀ v1 w1, Bs w0 w1 v1 (l ++ ys) → wpList Tryd.prog ops Q rest (a.put o.dst v1) w1) : wpList Tryd.prog ops Q (o :: rest) a (W.alloc (.cells (nums .u8 ys).toArray 5)) := by
  obtain ⟨A, c, e, hr⟩ := (Bs.lit (w0 := W) (Below.refl _ _) ys (by omega)).reads
  injection e with e1 e2 e3
  subst e1
  refine print_append_row (w0 := w0) w0.heap.size hgd s x 22 5 .u8 1 ho Tryd.underlying22 info_u8 (by decide) v l ys _ _ _ hs hx (HB.own.alloc _) hr (below_alloc HB.bel _) (Nat.le_trans HB.bel.size (by simp)) (by omega) ?_
  intro v1 w1 h1 h2 _ _
  exact h v1 w1 ⟨h1, h2⟩
/-- The same, the new block's number spelt otherwise; what is no block of v's stays. -/
theorem app_litg {w0 W : World} (hgd : o.guard = none) (s x : Operand) (ho : o.op = .call { callee := .builtin .append, args := #[s, x], argTypes := #[22, 22] })
    (v : Value) (l ys : List Int) (hs : a.eval s = v) (b : Nat) (hx : a.eval x = .slice (some ⟨b, 0, none⟩) ys.length ys.length) (hb : b = W.heap.size) (HB : Bs w0 W v l) (hl : l.length + ys.length ≤ 1000000)
    (h : ∀ v1 w1, Bs w0 w1 v1 (l ++ ys) → (W.alloc (.cells (nums .u8 ys).toArray 5)).grownBy w1 v.ownBlock → wpList Tryd.prog ops Q rest (a.put o.dst v1) w1) : wpList Tryd.prog ops Q (o :: rest) a (W.alloc (.cells (nums .u8 ys).toArray 5)) := by
  subst hb
  obtain ⟨A, c, e, hr⟩ := (Bs.lit (w0 := W) (Below.refl _ _) ys (by omega)).reads
  injection e with e1 e2 e3
  subst e1
  refine print_append_row (w0 := w0) w0.heap.size hgd s x 22 5 .u8 1 ho Tryd.underlying22 info_u8 (by decide) v l ys _ _ _ hs hx (HB.own.alloc _) hr (below_alloc HB.bel _) (Nat.le_trans HB.bel.size (by simp)) (by omega) ?_
  intro v1 w1 h1 h2 h3 _
  exact h v1 w1 ⟨h1, h2⟩ h3
/-- append(v, ys...), ys another row that is read. -/
theorem app_row {w0 W : World} (hgd : o.guard = none) (s x : Operand) (ho : o.op = .call { callee := .builtin .append, args := #[s, x], argTypes := #[22, 22] })
    (v : Value) (l ys : List Int) (A : Option Addr) (m c : Nat) (hs : a.eval s = v) (hx : a.eval x = .slice A m c) (HB : Bs w0 W v l) (HR : ReadsInt W .u8 A m ys) (hl : l.length + m ≤ 1000000)
    (h : ∀ v1 w1, Bs w0 w1 v1 (l ++ ys) → wpList Tryd.prog ops Q rest (a.put o.dst v1) w1) : wpList Tryd.prog ops Q (o :: rest) a W := by
  refine print_append_row (w0 := w0) w0.heap.size hgd s x 22 5 .u8 1 ho Tryd.underlying22 info_u8 (by decide) v l ys A m c hs hx HB.own HR HB.bel HB.bel.size (by omega) ?_
  intro v1 w1 h1 h2 _ _
  exact h v1 w1 ⟨h1, h2⟩
end
end Go.Proofs.YtchjmkofdiejhaaDoor.OwnBs
