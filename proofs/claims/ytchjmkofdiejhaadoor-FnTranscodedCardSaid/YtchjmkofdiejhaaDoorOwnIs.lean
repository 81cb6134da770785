/- A row of numbers of a call's own, appended to; what is told of a row and a bool; lemmas for walks of our own; no condition of its own. -/
import Derived.Test.YtchjmkofdiejhaaDoorPlainA
import Derived.Test.YtchjmkofdiejhaaDoorProg
import Derived.Outline
import Derived.WalkKit
import Derived.Lib.Hide
import Derived.RegionTactic
import Derived.ChangeAlike
import Derived.Deep.QuietTactic
import Derived.Deep.DeepCutAuto
import Derived.Deep.LoopGhost
import Derived.BigQuiet
namespace Go.Proofs.YtchjmkofdiejhaaDoor.OwnIs
open Go Go.RowKit Go.Proofs.YtchjmkofdiejhaaDoorW.PrintWords Go.Proofs.YtchjmkofdiejhaaDoorW.PrintLast Go.Proofs.YtchjmkofdiejhaaDoorW.PrintMore
set_option linter.unusedVariables false
set_option linter.unusedSimpArgs false
theorem bcell {W w1 : World} (hb : Below W.heap.size W w1) : (∀ b o, b < W.heap.size → w1.cell? ⟨b, o, none⟩ = W.cell? ⟨b, o, none⟩) ∧ (∀ b o, b < W.heap.size → w1.frozen? ⟨b, o, none⟩ = W.frozen? ⟨b, o, none⟩) :=
  ⟨fun b o h => hb.cell (p := ⟨b, o, none⟩) h, fun b o h => hb.frozen (p := ⟨b, o, none⟩) h⟩
theorem info_int : (Tryd.prog.info? 3).map (fun i => (i.zero, i.size, i.bytes)) = some (some (.int .i64 0), 1, 8) := by kernel_rfl
abbrev dI : Kd Int := Kd.int .i64
structure Is (w0 w : World) (v : Value) (l : List Int) : Prop where
  row : dI.R 3 w w0.heap.size (fun _ => True) v l
  bel : Below w0.heap.size w0 w
theorem Is.below {w0 w w1 : World} {v : Value} {l : List Int} (h : Is w0 w v l) (hb : Below w.heap.size w w1) : Is w0 w1 v l := ⟨Kd.R_below h.row hb, below_step h.bel hb⟩
theorem Is.start {w0 X : World} (hB : Below w0.heap.size w0 X) : Is w0 (X.alloc (.cells #[] 3)) (.slice (some ⟨X.heap.size, 0, none⟩) 0 0) [] :=
  ⟨Kd.R_of_own (enc := Value.int .i64) (h1 := fun _ => rfl) (own_lit X w0.heap.size 3 .i64 [] hB.size (by simp)) (fun _ _ => trivial), below_alloc hB _⟩
theorem Is.form {w0 w : World} {v : Value} {l : List Int} (h : Is w0 w v l) : ∃ A c, v = .slice A l.length c := Kd.R_slice h.row
section
variable {ops : Array Oper} {rest : List Oper} {o : Oper} {a : Act} {Q : Exit → Act → World → Prop} {w0 W : World} {v : Value} {l : List Int}
/-- out = append(out, i) -/
theorem Is.app (h : Is w0 W v l) (i : Int) (hl : l.length ≤ 100000) (hgd : o.guard = none) (s x : Operand) (ho : o.op = .call { callee := .builtin .append, args := #[s, x], argTypes := #[23, 23] })
    (hs : a.eval s = v) (b : Nat) (hx : a.eval x = .slice (some ⟨b, 0, none⟩) 1 1) (hb : b = W.heap.size)
    (K : ∀ v1 w1, Is w0 w1 v1 (l ++ [i]) → wpList Tryd.prog ops Q rest (a.put o.dst v1) w1) : wpList Tryd.prog ops Q (o :: rest) a (W.alloc (.cells #[.int .i64 i] 3)) := by
  subst hb
  refine Kd.R_append dI (w0 := w0) w0.heap.size hgd s x 23 3 (.int .i64 0) 8 ho Tryd.underlying23 info_int rfl (by decide) (by decide) v l i [.int .i64 i] (fun _ => True) (fun _ => False) hs hx rfl (fun _ hk => hk.elim) (fun _ _ => trivial) h.row h.bel h.bel.size (by omega) ?_
  intro v1 w1 hR hb hg _
  exact K v1 w1 ⟨hR, hb⟩
end
/-- A call told a row of its own and a bool. -/
def EoPost (w : World) (r : List Int × Bool) (e : Ending) (w' : World) : Prop := ∃ A c, e = .returned (.tuple #[.slice A r.1.length c, .bool r.2]) ∧ dI.R 3 w' w.heap.size (fun _ => True) (.slice A r.1.length c) r.1 ∧ Below w.heap.size w w'
theorem R_same {w w1 : World} {B : Nat} {v : Value} {xs : List Int} (h : dI.R 3 w B (fun _ => True) v xs) (hk : ∀ k, v.ownBlock = some k → w1.heap[k]? = w.heap[k]?) : dI.R 3 w1 B (fun _ => True) v xs :=
  Kd.R_mono (Kd.R_step (Kd.R_tight rfl h) (fun k hk2 _ => hk k hk2.symm)) (fun _ _ => trivial)
end Go.Proofs.YtchjmkofdiejhaaDoor.OwnIs
