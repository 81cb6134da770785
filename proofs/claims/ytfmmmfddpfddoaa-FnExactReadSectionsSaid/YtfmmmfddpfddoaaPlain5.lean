/- Plain lemmas on strings as lists of bytes; no condition of its own. -/
import Derived.Test.YtfmmmfddpfddoaaPlain4
namespace Go.Proofs.Ytfmmmfddpfddoaa.Pl
open Go Go.RowKit Go.Proofs.YtfmmmfddpfddoaaW.PrintWords Go.Proofs.YtfmmmfddpfddoaaW.PrintLast Go.Proofs.YtfmmmfddpfddoaaW.PrintMore
set_option linter.unusedVariables false
set_option linter.unusedSimpArgs false
theorem loop_len (s : ByteArray) : ∀ (m i : Nat) (r : List UInt8), i + m = s.size → (ByteArray.toList.loop s i r).length = m + r.length := by
  intro m
  induction m with
  | zero =>
    intro i r h
    unfold ByteArray.toList.loop
    rw [if_neg (by omega)]
    simp
  | succ m ih =>
    intro i r h
    unfold ByteArray.toList.loop
    rw [if_pos (by omega), ih (i + 1) _ (by omega)]
    simp; omega
theorem toList_len (s : ByteArray) : s.toList.length = s.size := by
  unfold ByteArray.toList
  rw [loop_len s s.size 0 [] (by omega)]; simp
theorem toList_nil (s : ByteArray) : s.toList = [] ↔ s.size = 0 := by
  rw [← toList_len, List.length_eq_zero_iff]
theorem choose_fn {α β : Type} [Inhabited β] {P : α → Prop} {Q : α → β → Prop} (h : ∀ a, P a → ∃ b, Q a b) : ∃ f : α → β, ∀ a, P a → Q a (f a) :=
  ⟨fun a => @dite _ (P a) (Classical.propDecidable _) (fun hp => Classical.choose (h a hp)) (fun _ => default), fun a hp => by simp only [dif_pos hp]; exact Classical.choose_spec (h a hp)⟩
end Go.Proofs.Ytfmmmfddpfddoaa.Pl
