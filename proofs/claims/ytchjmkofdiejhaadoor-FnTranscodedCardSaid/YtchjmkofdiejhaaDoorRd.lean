/- What can be read as data of a type is a value of the kind that the printed walks speak of: numbers, bools, strings, lists, structs, at any depth; no condition of its own. -/
import Derived.Test.YtchjmkofdiejhaaDoorWMore
import Derived.ChangeArms
import Derived.Deep.Slices
import Derived.Carry
namespace Go.Proofs.YtchjmkofdiejhaaDoor.Rd
open Go Go.RowKit Go.ChangeShapes Go.WideShapes Go.Deep Go.Proofs.YtchjmkofdiejhaaDoorW.PrintWords
set_option linter.unusedVariables false
set_option linter.unusedSimpArgs false
section
variable {H : Type} {enc : TypeId × Value → H} {P : Program} {w : World}
/-- Whatever of this type can be read as data is one of the kind's values, whose parts are in their ranges. -/
def Fits {α : Type} (enc : TypeId × Value → H) (P : Program) (w : World) (d : Kd α) (t : TypeId) (Wf : α → Prop) : Prop :=
  ∀ (fuel : Nat) (cs : List Value) (x : DataW H × List MemPlace), DataW.trod enc P w 0 (fun _ => true) true fuel t cs = some x → ∃ a, d.K w a cs ∧ Wf a
theorem fits_int {t : TypeId} (k : IntKind) (ht : P.underlying t = some (.int k)) : Fits enc P w (Kd.int k) t (fun a => (Lit.int k a).wf = true) := by
  intro fuel cs x h
  obtain ⟨n, rfl, _, hw⟩ := DataW.trod_int ht h
  exact ⟨n, rfl, hw⟩
theorem fits_bool {t : TypeId} (ht : P.underlying t = some .bool) : Fits enc P w Kd.bool t (fun _ => True) := by
  intro fuel cs x h
  obtain ⟨b, rfl, _⟩ := DataW.trod_bool ht h
  exact ⟨b, rfl, trivial⟩
theorem fits_string {t : TypeId} (ht : P.underlying t = some .string) : Fits enc P w Kd.string t (fun s => s.size ≤ maxLen) := by
  intro fuel cs x h
  obtain ⟨s, rfl, _, hs⟩ := DataW.trod_string ht h
  exact ⟨s, rfl, hs⟩
theorem list_of {α : Type} {p : Nat → α → Prop} : ∀ (n : Nat), (∀ i, i < n → ∃ a, p i a) → ∃ l : List α, l.length = n ∧ ∀ (i : Nat) (a : α), l[i]? = some a → p i a
  | 0, _ => ⟨[], rfl, fun i a h => by simp at h⟩
  | n + 1, h => by
    obtain ⟨l, hl, hp⟩ := list_of n (fun i hi => h i (by omega))
    obtain ⟨a, ha⟩ := h n (by omega)
    refine ⟨l ++ [a], by simp [hl], fun i b hb => ?_⟩
    rcases Nat.lt_or_ge i l.length with hi | hi
    · rw [List.getElem?_append_left hi] at hb
      exact hp i b hb
    · rw [List.getElem?_append_right hi] at hb
      have hi2 : i - l.length = 0 := by
        have := (List.getElem?_eq_some_iff.1 hb).1
        simp at this
        omega
      rw [hi2] at hb
      simp at hb
      subst hb
      rw [show i = n by omega]
      exact ha
theorem fits_slice {α : Type} {d : Kd α} {t e : TypeId} {Wf : α → Prop} (q : Nat) (ht : P.underlying t = some (.slice e)) (hsz : P.cellsOf e = d.sz) (he : Fits enc P w d e Wf) : Fits enc P w (Kd.slice q d) t (fun l => l.length ≤ maxLen ∧ ∀ a ∈ l, Wf a) := by
  intro fuel cs x h
  rcases open_slice ht h with ⟨rfl, _⟩ | ⟨a, len, cap, m, n, D, Pl, rfl, hb, hl, hm, hmm, _, hi⟩
  · exact ⟨[], ⟨none, 0, rfl, Nat.le_refl _, ⟨rfl, by simp, fun h => absurd h (by simp)⟩⟩, by simp, fun a ha => by simp at ha⟩
  · have hlm : len ≤ m := by rw [hmm]; simp; exact hl
    obtain ⟨l, hll, hp⟩ := list_of (α := α) (p := fun i a' => (∃ c, c.length = d.sz ∧ d.K w a' c ∧ ∀ j u, c[j]? = some u → w.cell? (a.add (i * d.sz + j)) = some u) ∧ Wf a') len (fun i hil => by
      obtain ⟨cs', hc, ht'⟩ := hi i (by omega)
      obtain ⟨a', hk, hw⟩ := he _ _ _ ht'
      rw [hsz] at hc
      obtain ⟨_, hcl, hat⟩ := World.cells?_some hc
      refine ⟨a', ⟨cs', hcl, hk, fun j u hu => ?_⟩, hw⟩
      have hj : j < d.sz := by
        have := (List.getElem?_eq_some_iff.1 hu).1
        omega
      have hcell := hat j hj
      rw [← Go.Deep.add_add, hcell]
      exact hu)
    subst hll
    refine ⟨l, ⟨some a, cap, rfl, hl, ⟨rfl, by simp only [maxLen] at hm; omega, fun _ => ⟨a, rfl, fun j p hj => (hp j p hj).1⟩⟩⟩, by omega, fun b hb => ?_⟩
    obtain ⟨j, hj⟩ := List.getElem?_of_mem hb
    exact (hp j b hj).2
theorem fits_iso {α β : Type} {d : Kd α} {t : TypeId} {Wf : α → Prop} (f : β → α) (g : α → β) (hfg : ∀ a, f (g a) = a) (h : Fits enc P w d t Wf) : Fits enc P w (Kd.iso d f) t (fun b => Wf (f b)) := by
  intro fuel cs x hx
  obtain ⟨a, hk, hw⟩ := h fuel cs x hx
  refine ⟨g a, ?_, by show Wf (f (g a)); rw [hfg]; exact hw⟩
  show d.K w (f (g a)) cs
  rw [hfg]
  exact hk
/-- The fields from one on, in line: their cells read as the kind's value. -/
def FitsSeg {α : Type} (enc : TypeId × Value → H) (P : Program) (w : World) (d : Kd α) (fl : List Field) (off : Nat) (Wf : α → Prop) : Prop :=
  ∀ (n : Nat) (cs : List Value), cs.length = off + d.sz → (∀ f ∈ fl, ∃ x, DataW.trod enc P w 0 (fun _ => true) true n f.type ((cs.drop f.offset).take (P.cellsOf f.type)) = some x) → ∃ a, d.K w a (cs.drop off) ∧ Wf a
theorem seg_one {α : Type} {d : Kd α} {Wf : α → Prop} {off : Nat} (f : Field) (ho : f.offset = off) (hc : P.cellsOf f.type = d.sz) (h : Fits enc P w d f.type Wf) : FitsSeg enc P w d [f] off Wf := by
  intro n cs hl hf
  obtain ⟨x, hx⟩ := hf f (by simp)
  rw [ho, hc, List.take_of_length_le (by rw [List.length_drop]; omega)] at hx
  exact h n _ x hx
theorem seg_cons {α β : Type} {d : Kd α} {d' : Kd β} {Wf : α → Prop} {Wf' : β → Prop} {off : Nat} {fl : List Field} (f : Field) (ho : f.offset = off) (hc : P.cellsOf f.type = d.sz) (h : Fits enc P w d f.type Wf)
    (ht : FitsSeg enc P w d' fl (off + d.sz) Wf') : FitsSeg enc P w (Kd.pair d d') (f :: fl) off (fun x => Wf x.1 ∧ Wf' x.2) := by
  intro n cs hl hf
  have hl' : cs.length = off + d.sz + d'.sz := by rw [hl]; show off + (d.sz + d'.sz) = _; omega
  obtain ⟨x, hx⟩ := hf f (by simp)
  rw [ho, hc] at hx
  obtain ⟨a, ka, wa⟩ := h n _ x hx
  obtain ⟨b, kb, wb⟩ := ht n cs hl' (fun g hg => hf g (by simp [hg]))
  refine ⟨(a, b), ⟨(cs.drop off).take d.sz, cs.drop (off + d.sz), ?_, ka, kb⟩, wa, wb⟩
  rw [← List.drop_drop, List.take_append_drop]
theorem fits_struct {α : Type} {d : Kd α} {t : TypeId} {fs : Array Field} {Wf : α → Prop} (ht : P.underlying t = some (.struct fs)) (hsz : P.cellsOf t = d.sz) (hseg : FitsSeg enc P w d fs.toList 0 Wf) : Fits enc P w d t Wf := by
  intro fuel cs x h
  obtain ⟨xs, n, _, _, hl, hlen, hf⟩ := DataW.trod_struct ht h
  have := hseg n cs (by omega) (fun f hfm => by
    obtain ⟨i, hi⟩ := List.getElem?_of_mem hfm
    have hi' : fs[i]? = some f := by rw [← Array.getElem?_toList]; exact hi
    have hil : i < xs.length := by rw [hlen]; exact (Array.getElem?_eq_some_iff.1 hi').1
    exact ⟨xs[i], by rw [hf i f hi', List.getElem?_eq_getElem hil]⟩)
  rwa [List.drop_zero] at this
/-- A struct argument: its cells, read as the kind's value. -/
theorem agg_of {α : Type} {d : Kd α} {t : TypeId} {fs : Array Field} {Wf : α → Prop} {r : Reach} {b0 : Nat} {v : Value} {x : DataW H} {ps : List MemPlace} (h : Fits enc P w d t Wf) (ht : P.underlying t = some (.struct fs))
    (hv : Value.okWide P w r b0 t v) (hx : DataW.Trod enc P w 0 (fun _ => true) true t v x ps) : ∃ (cs : Array Value) (a : α), v = .agg cs ∧ d.K w a cs.toList ∧ Wf a := by
  obtain ⟨cs, rfl, _⟩ := okWide_struct ht hv
  obtain ⟨fuel, hf⟩ := hx
  obtain ⟨a, ka, wa⟩ := h fuel _ _ hf
  exact ⟨cs, a, rfl, ka, wa⟩
/-- A slice argument. -/
theorem slice_of {α : Type} {d : Kd α} {t e : TypeId} {Wf : List α → Prop} {q : Nat} {r : Reach} {b0 : Nat} {v : Value} {x : DataW H} {ps : List MemPlace} (h : Fits enc P w (Kd.slice q d) t Wf) (ht : P.underlying t = some (.slice e))
    (hv : Value.okWide P w r b0 t v) (hx : DataW.Trod enc P w 0 (fun _ => true) true t v x ps) : ∃ (A : Option Addr) (l : List α) (c : Nat), v = .slice A l.length c ∧ l.length ≤ c ∧ Kd.C d w A l.length l ∧ Wf l := by
  obtain ⟨a, len, cap, rfl⟩ := okWide_slice ht hv
  obtain ⟨fuel, hf⟩ := hx
  obtain ⟨l, ⟨A, c, he, hl, hC⟩, wl⟩ := h fuel _ _ hf
  refine ⟨A, l, c, ?_, hl, hC, wl⟩
  have : [Value.slice a len cap] = [Value.slice A l.length c] := he
  exact List.head_eq_of_cons_eq this
end
end Go.Proofs.YtchjmkofdiejhaaDoor.Rd
