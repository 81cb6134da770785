/- Plain lemmas on rounds, for the statements' pure parts; no condition of its own. -/
import Derived.Test.YtfmmmfddpfddoaaPlain
namespace Go.Proofs.Ytfmmmfddpfddoaa.Pl
open Go Go.RowKit Go.Proofs.YtfmmmfddpfddoaaW.PrintWords Go.Proofs.YtfmmmfddpfddoaaW.PrintLast Go.Proofs.YtfmmmfddpfddoaaW.PrintMore
set_option linter.unusedVariables false
set_option linter.unusedSimpArgs false
/-! ### rounds -/
theorem ev_skip {α : Type} {g f : Nat → Option α} {r : α} (n : Nat) (h : ∀ k, g (k + n) = f k) (e : Ev f r) : Ev g r := by
  obtain ⟨K, e⟩ := e
  refine ⟨K + n, fun k hk => ?_⟩
  have := h (k - n)
  rw [Nat.sub_add_cancel (by omega)] at this
  rw [this]
  exact e _ (by omega)
theorem ev_const {α : Type} {g : Nat → Option α} {r : α} (n : Nat) (h : ∀ k, g (k + n) = some r) : Ev g r := ev_skip n h (Ev.now r)
theorem ev_uniq {α : Type} {g : Nat → Option α} {r r' : α} (h : Ev g r) (h' : Ev g r') : r = r' := by
  obtain ⟨K, e⟩ := h
  obtain ⟨K', e'⟩ := h'
  have h1 := e (K + K') (by omega)
  have h2 := e' (K + K') (by omega)
  rw [h1] at h2
  exact Option.some.inj h2
end Go.Proofs.Ytfmmmfddpfddoaa.Pl
