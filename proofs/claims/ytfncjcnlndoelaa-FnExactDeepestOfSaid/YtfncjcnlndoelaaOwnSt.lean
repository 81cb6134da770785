/- Four rows of a call's own that are written in turn (numbers, numbers, bools, rows of numbers): what each event leaves of them. -/
import Derived.Test.YtfncjcnlndoelaaOwnKp
namespace Go.Proofs.Ytfncjcnlndoelaa.OwnSt
open Go Go.RowKit Go.Proofs.YtfncjcnlndoelaaW.PrintWords Go.Proofs.YtfncjcnlndoelaaW.PrintLast Go.Proofs.YtfncjcnlndoelaaW.PrintMore Go.Proofs.Ytfncjcnlndoelaa.OwnBs Go.Proofs.Ytfncjcnlndoelaa.OwnKp
set_option linter.unusedVariables false
set_option linter.unusedSimpArgs false
theorem info_int : (Try.prog.info? 3).map (fun i => (i.zero, i.size, i.bytes)) = some (some (.int .i64 0), 1, 8) := by kernel_rfl
theorem info_bool : (Try.prog.info? 4).map (fun i => (i.zero, i.size, i.bytes)) = some (some (.bool false), 1, 1) := by kernel_rfl
theorem info_ints : (Try.prog.info? 52).map (fun i => (i.zero, i.size, i.bytes)) = some (some (.slice none 0 0), 1, 24) := by kernel_rfl
abbrev dI : Kd Int := Kd.int .i64
abbrev dL : Kd (List Int) := Kd.slice 3 dI
theorem R_retag {α : Type} {d : Kd α} {e : Nat} {w : World} {B : Nat} {v : Value} {xs : List α} {tag tag' : Nat → Nat} {c : Nat} (h : d.R e w B (fun k => tag k = c) v xs) (ht : ∀ k, k < w.heap.size → tag' k = tag k) : d.R e w B (fun k => tag' k = c) v xs :=
  Kd.R_mono (Kd.R_bound h) (fun k hk => by rw [ht k hk.2.2.1]; exact hk.1)
theorem S_retag {α : Type} {d : Kd α} {e : Nat} {w : World} {B : Nat} {v : Value} {xs : List α} {tag tag' : Nat → Nat} {c : Nat} (h : Kd.S d e w B (fun k => tag k = c) v xs) (ht : ∀ k, k < w.heap.size → tag' k = tag k) : Kd.S d e w B (fun k => tag' k = c) v xs :=
  Kd.S_mono (Kd.S_bound h) (fun k hk => by rw [ht k hk.2.2.1]; exact hk.1)
/-- What is new belongs to c. -/
def ft (tag : Nat → Nat) (n c : Nat) : Nat → Nat := fun k => if k < n then tag k else c
theorem ft_old (tag : Nat → Nat) (n c : Nat) : ∀ k, k < n → ft tag n c k = tag k := fun k hk => if_pos hk
theorem ft_new (tag : Nat → Nat) (n c : Nat) : ∀ k, n ≤ k → ft tag n c k = c := fun k hk => if_neg (by omega)
/-- The four rows: out, open, elses, inside. -/
structure St (w0 w : World) (vo vp ve vi : Value) (out op : List Int) (els : List Bool) (ins : List (List Int)) : Prop where
  rows : ∃ tag : Nat → Nat, dI.R 3 w w0.heap.size (fun k => tag k = 0) vo out ∧ dI.R 3 w w0.heap.size (fun k => tag k = 1) vp op ∧ Kd.bool.R 4 w w0.heap.size (fun k => tag k = 2) ve els ∧ Kd.S dL 52 w w0.heap.size (fun k => tag k = 3) vi ins
  bel : Below w0.heap.size w0 w
section
variable {w0 w w1 : World} {vo vp ve vi : Value} {out op : List Int} {els : List Bool} {ins : List (List Int)}
theorem St.below (h : St w0 w vo vp ve vi out op els ins) (hb : Below w.heap.size w w1) : St w0 w1 vo vp ve vi out op els ins := by
  obtain ⟨⟨tag, h1, h2, h3, h4⟩, hB⟩ := h
  exact ⟨⟨tag, Kd.R_below h1 hb, Kd.R_below h2 hb, Kd.R_below h3 hb, Kd.S_below h4 hb⟩, below_step hB hb⟩
theorem St.alloc (h : St w0 w vo vp ve vi out op els ins) (o : Obj) : St w0 (w.alloc o) vo vp ve vi out op els ins := h.below (below_alloc (Below.refl _ _) o)
theorem St.forms (h : St w0 w vo vp ve vi out op els ins) (h1 : 0 < op.length) (h2 : 0 < els.length) (h3 : 0 < ins.length) : (∃ A c, vo = .slice A out.length c) ∧ (∃ g c, vp = .slice (some ⟨g, 0, none⟩) op.length c ∧ op.length ≤ c) ∧ (∃ g c, ve = .slice (some ⟨g, 0, none⟩) els.length c ∧ els.length ≤ c) ∧ (∃ g c, vi = .slice (some ⟨g, 0, none⟩) ins.length c ∧ ins.length ≤ c) := by
  obtain ⟨⟨tag, r1, r2, r3, r4⟩, hB⟩ := h
  refine ⟨Kd.R_slice r1, ?_, ?_, ?_⟩
  · obtain ⟨g, c, rfl, _⟩ := Kd.R_form r2 h1
    exact ⟨g, c, rfl, (Kd.R_reads' r2).2.1⟩
  · obtain ⟨g, c, rfl, _⟩ := Kd.R_form r3 h2
    exact ⟨g, c, rfl, (Kd.R_reads' r3).2.1⟩
  · obtain ⟨g, c, rfl, _⟩ := Kd.S_form r4 h3
    exact ⟨g, c, rfl, (Kd.S_reads' r4).2.1⟩
/-- A block of another type stays where a row is written. -/
theorem box_stays {W w1 : World} {v : Value} {e t g : Nat} {cs : Array Value} (hv : ∀ k, v.ownBlock = some k → ∃ cells, W.heap[k]? = some (.cells cells e (0, 0))) (hg : W.grownBy w1 v.ownBlock) (hne : e ≠ t) (hb : W.heap[g]? = some (.cells cs t (0, 0))) : w1.heap[g]? = some (.cells cs t (0, 0)) :=
  blk_grown hb hg (fun h => by
    obtain ⟨cells, hc⟩ := hv g h.symm
    rw [hc] at hb
    injection hb with hb
    injection hb with _ hb
    exact hne hb)
end
/-- Blocks of instructions stay. -/
def BoxKept (W w1 : World) : Prop := ∀ (g : Nat) (cs : Array Value), W.heap[g]? = some (Obj.cells cs 86 (0, 0)) → w1.heap[g]? = some (Obj.cells cs 86 (0, 0))
section
variable {ops : Array Oper} {rest : List Oper} {o : Oper} {a : Act} {Q : Exit → Act → World → Prop} {w0 W : World} {vo vp ve vi : Value} {out op : List Int} {els : List Bool} {ins : List (List Int)}
/-- open = append(open, i) -/
theorem St.app_open (h : St w0 W vo vp ve vi out op els ins) (i : Int) (hl : op.length ≤ 100000) (hgd : o.guard = none) (s x : Operand) (ho : o.op = .call { callee := .builtin .append, args := #[s, x], argTypes := #[52, 52] })
    (hs : a.eval s = vp) (b : Nat) (hx : a.eval x = .slice (some ⟨b, 0, none⟩) 1 1) (hb : b = W.heap.size)
    (K : ∀ v1 w1, St w0 w1 vo v1 ve vi out (op ++ [i]) els ins → BoxKept W w1 → wpList Try.prog ops Q rest (a.put o.dst v1) w1) : wpList Try.prog ops Q (o :: rest) a (W.alloc (.cells #[.int .i64 i] 3)) := by
  subst hb
  obtain ⟨⟨tag, r1, r2, r3, r4⟩, hB⟩ := h
  have fo := ft_old tag W.heap.size 1
  have r2' := R_retag r2 fo
  refine Kd.R_append dI (w0 := w0) w0.heap.size hgd s x 52 3 (.int .i64 0) 8 ho Try.underlying52 info_int rfl (by decide) (by decide) vp op i [.int .i64 i] (fun k => ft tag W.heap.size 1 k = 1) (fun _ => False) hs hx rfl (fun _ hk => hk.elim) (ft_new tag _ 1) r2' hB hB.size (by omega) ?_
  intro v1 w1 hR hb hg _
  have hne : ∀ c, c ≠ 1 → ∀ k, ft tag W.heap.size 1 k = c → some k ≠ vp.ownBlock := fun c hc k hk he => hc (hk ▸ (r2'.1 k he.symm))
  exact K v1 w1 ⟨⟨ft tag W.heap.size 1, Kd.R_grown (R_retag r1 fo) hg (hne 0 (by decide)), hR, Kd.R_grown (R_retag r3 fo) hg (hne 2 (by decide)), Kd.S_grown (S_retag r4 fo) hg (hne 3 (by decide))⟩, hb⟩ (fun g cs hc => box_stays (Kd.R_typed r2) hg (by decide) hc)
/-- elses = append(elses, x) -/
theorem St.app_els (h : St w0 W vo vp ve vi out op els ins) (i : Bool) (hl : els.length ≤ 100000) (hgd : o.guard = none) (s x : Operand) (ho : o.op = .call { callee := .builtin .append, args := #[s, x], argTypes := #[125, 125] })
    (hs : a.eval s = ve) (b : Nat) (hx : a.eval x = .slice (some ⟨b, 0, none⟩) 1 1) (hb : b = W.heap.size)
    (K : ∀ v1 w1, St w0 w1 vo vp v1 vi out op (els ++ [i]) ins → BoxKept W w1 → wpList Try.prog ops Q rest (a.put o.dst v1) w1) : wpList Try.prog ops Q (o :: rest) a (W.alloc (.cells #[.bool i] 4)) := by
  subst hb
  obtain ⟨⟨tag, r1, r2, r3, r4⟩, hB⟩ := h
  have fo := ft_old tag W.heap.size 2
  have r3' := R_retag r3 fo
  refine Kd.R_append Kd.bool (w0 := w0) w0.heap.size hgd s x 125 4 (.bool false) 1 ho Try.underlying125 info_bool rfl (by decide) (by decide) ve els i [.bool i] (fun k => ft tag W.heap.size 2 k = 2) (fun _ => False) hs hx rfl (fun _ hk => hk.elim) (ft_new tag _ 2) r3' hB hB.size (by omega) ?_
  intro v1 w1 hR hb hg _
  have hne : ∀ c, c ≠ 2 → ∀ k, ft tag W.heap.size 2 k = c → some k ≠ ve.ownBlock := fun c hc k hk he => hc (hk ▸ (r3'.1 k he.symm))
  exact K v1 w1 ⟨⟨ft tag W.heap.size 2, Kd.R_grown (R_retag r1 fo) hg (hne 0 (by decide)), Kd.R_grown (R_retag r2 fo) hg (hne 1 (by decide)), hR, Kd.S_grown (S_retag r4 fo) hg (hne 3 (by decide))⟩, hb⟩ (fun g cs hc => box_stays (Kd.R_typed r3) hg (by decide) hc)
/-- inside = append(inside, []int{i}) -/
theorem St.app_ins (h : St w0 W vo vp ve vi out op els ins) (i : Int) (hl : ins.length ≤ 100000) (hgd : o.guard = none) (s x : Operand) (ho : o.op = .call { callee := .builtin .append, args := #[s, x], argTypes := #[98, 98] })
    (hs : a.eval s = vi) (b b2 : Nat) (hx : a.eval x = .slice (some ⟨b, 0, none⟩) 1 1) (hb : b = W.heap.size + 1) (hb2 : b2 = W.heap.size)
    (K : ∀ v1 w1, St w0 w1 vo vp ve v1 out op els (ins ++ [[i]]) → BoxKept W w1 → wpList Try.prog ops Q rest (a.put o.dst v1) w1) : wpList Try.prog ops Q (o :: rest) a ((W.alloc (.cells #[.int .i64 i] 3)).alloc (.cells #[.slice (some ⟨b2, 0, none⟩) 1 1] 52)) := by
  subst hb2
  obtain ⟨⟨tag, r1, r2, r3, r4⟩, hB⟩ := h
  have fo := ft_old tag W.heap.size 3
  have hsz : (W.alloc (.cells #[.int .i64 i] 3)).heap.size = W.heap.size + 1 := by simp
  have r4' : Kd.S dL 52 (W.alloc (.cells #[.int .i64 i] 3)) w0.heap.size (fun k => ft tag W.heap.size 3 k = 3 ∧ ¬ k = W.heap.size) vi ins :=
    Kd.S_alloc (Kd.S_mono (Kd.S_bound (S_retag r4 fo)) (fun k hk => ⟨hk.1, by have := hk.2.2.1; omega⟩)) _
  have hp : dL.M (W.alloc (.cells #[.int .i64 i] 3)) w0.heap.size (fun k => k = W.heap.size) [i] [.slice (some ⟨W.heap.size, 0, none⟩) 1 1] := by
    refine ⟨_, rfl, Kd.R_of_own (enc := Value.int .i64) (h1 := fun _ => rfl) ?_ (fun k hk => ?_)⟩
    · exact own_lit W w0.heap.size 3 .i64 [i] hB.size (by simp)
    · simp [Value.ownBlock] at hk; exact hk.symm
  refine Kd.S_append dL (w0 := w0) w0.heap.size hgd s x 98 52 (.slice none 0 0) 24 ho Try.underlying98 info_ints rfl (by decide) (by decide) vi ins [i] [.slice (some ⟨W.heap.size, 0, none⟩) 1 1] (fun k => ft tag W.heap.size 3 k = 3) (fun k => k = W.heap.size) hs (by rw [hx, hb, hsz]) hp (fun k hk => ⟨by rw [hk]; exact ft_new tag _ 3 _ (Nat.le_refl _), fun he => by have := Kd.S_lt r4 k he.symm; omega⟩) (fun k hk => ft_new tag _ 3 k (by omega)) r4' (below_alloc hB _) (by rw [hsz]; exact Nat.le_succ_of_le hB.size) (by omega) ?_
  intro v1 w1 hR hb hg _
  have hne : ∀ c, c ≠ 3 → ∀ k, ft tag W.heap.size 3 k = c → some k ≠ vi.ownBlock := fun c hc k hk he => hc (hk ▸ ((Kd.S_R (S_retag r4 fo)).1 k he.symm))
  exact K v1 w1 ⟨⟨ft tag W.heap.size 3, Kd.R_grown (Kd.R_alloc (R_retag r1 fo) _) hg (hne 0 (by decide)), Kd.R_grown (Kd.R_alloc (R_retag r2 fo) _) hg (hne 1 (by decide)), Kd.R_grown (Kd.R_alloc (R_retag r3 fo) _) hg (hne 2 (by decide)), hR⟩, hb⟩ (fun g cs hc => box_stays (W := W.alloc (.cells #[.int .i64 i] 3)) (Kd.S_typed (Kd.S_alloc r4 _)) hg (by decide) (blk_alloc hc _))
/-- inside = append(inside, nil), inside nil: the first. -/
theorem St.app_nil (h : St w0 W vo vp ve (.slice none 0 0) out op els []) (hgd : o.guard = none) (s x : Operand) (ho : o.op = .call { callee := .builtin .append, args := #[s, x], argTypes := #[98, 98] })
    (hs : a.eval s = .slice none 0 0) (b : Nat) (hx : a.eval x = .slice (some ⟨b, 0, none⟩) 1 1) (hb : b = W.heap.size)
    (K : ∀ v1 w1, St w0 w1 vo vp ve v1 out op els [[]] → wpList Try.prog ops Q rest (a.put o.dst v1) w1) : wpList Try.prog ops Q (o :: rest) a (W.alloc (.cells #[.slice none 0 0] 52)) := by
  subst hb
  obtain ⟨⟨tag, r1, r2, r3, r4⟩, hB⟩ := h
  have fo := ft_old tag W.heap.size 3
  refine Kd.S_append dL (w0 := w0) w0.heap.size hgd s x 98 52 (.slice none 0 0) 24 ho Try.underlying98 info_ints rfl (by decide) (by decide) (.slice none 0 0) [] [] [.slice none 0 0] (fun k => ft tag W.heap.size 3 k = 3) (fun k => False) hs hx ⟨_, rfl, Kd.R_nil _ _ _ _ _⟩ (fun k hk => hk.elim) (fun k hk => ft_new tag _ 3 k hk) (Kd.S_nil _ _ _ _ _) hB hB.size (by simp) ?_
  intro v1 w1 hR hb hg _
  have hne : ∀ c, c ≠ 3 → ∀ k, ft tag W.heap.size 3 k = c → some k ≠ (Value.slice none 0 0).ownBlock := fun c hc k hk he => by simp [Value.ownBlock] at he
  exact K v1 w1 ⟨⟨ft tag W.heap.size 3, Kd.R_grown (R_retag r1 fo) hg (hne 0 (by decide)), Kd.R_grown (R_retag r2 fo) hg (hne 1 (by decide)), Kd.R_grown (R_retag r3 fo) hg (hne 2 (by decide)), hR⟩, hb⟩
end
section
variable {w0 w w1 : World} {vo vp ve vi : Value} {out op : List Int} {els : List Bool} {ins : List (List Int)} {g n c : Nat}
theorem St.op_form (h : St w0 w vo vp ve vi out op els ins) : ∃ A c, vp = .slice A op.length c := by
  obtain ⟨⟨tag, r1, r2, r3, r4⟩, hB⟩ := h
  exact Kd.R_slice r2
theorem St.els_cell (h : St w0 w vo vp (.slice (some ⟨g, 0, none⟩) n c) vi out op els ins) (i : Nat) (hi : i < els.length) : w.cell? ⟨g, i, none⟩ = some (.bool els[i]) ∧ w.frozen? ⟨g, i, none⟩ = false := by
  obtain ⟨⟨tag, r1, r2, r3, r4⟩, hB⟩ := h
  have hn := (Kd.R_reads' r3).1
  have := Kd.R_celln (enc := Value.bool) (h1 := fun _ => rfl) false r3 (i : Int) (by omega) (by omega)
  rw [Int.toNat_natCast] at this
  simpa [rdOf, List.getD_eq_getElem?_getD, List.getElem?_eq_getElem hi] using this
theorem St.set_els (h : St w0 w vo vp (.slice (some ⟨g, 0, none⟩) n c) vi out op els ins) (i : Nat) (x : Bool) : St w0 (w.setCell ⟨g, i, none⟩ (.bool x)) vo vp (.slice (some ⟨g, 0, none⟩) n c) vi out op (els.set i x) ins ∧ BoxKept w (w.setCell ⟨g, i, none⟩ (.bool x)) := by
  obtain ⟨⟨tag, r1, r2, r3, r4⟩, hB⟩ := h
  obtain ⟨hR, hg⟩ := Kd.R_putg (enc := Value.bool) (h1 := fun _ => rfl) r3 (i : Int) x
  rw [Int.toNat_natCast] at hR hg
  have hgo : (Value.slice (some ⟨g, 0, none⟩) n c).ownBlock = some g := by simp [Value.ownBlock]
  have h3 := r3.1 g hgo
  have hne : ∀ q, q ≠ 2 → ∀ k, tag k = q → some k ≠ some g := fun q hq k hk he => hq (by injection he with he; subst he; exact hk ▸ h3)
  exact ⟨⟨⟨tag, Kd.R_grown r1 hg (hne 0 (by decide)), Kd.R_grown r2 hg (hne 1 (by decide)), hR, Kd.S_grown r4 hg (hne 3 (by decide))⟩, below_set hB (Kd.R_base r3 g hgo)⟩, fun b cs hc => box_stays (v := .slice (some ⟨g, 0, none⟩) n c) (Kd.R_typed r3) (by rw [hgo]; exact hg) (by decide) hc⟩
theorem St.out_cell (h : St w0 w (.slice (some ⟨g, 0, none⟩) n c) vp ve vi out op els ins) (i : Nat) (hi : i < out.length) : w.cell? ⟨g, i, none⟩ = some (.int .i64 out[i]) ∧ w.frozen? ⟨g, i, none⟩ = false := by
  obtain ⟨⟨tag, r1, r2, r3, r4⟩, hB⟩ := h
  have hn := (Kd.R_reads' r1).1
  have := Kd.R_celln (enc := Value.int .i64) (h1 := fun _ => rfl) 0 r1 (i : Int) (by omega) (by omega)
  rw [Int.toNat_natCast] at this
  simpa [rdOf, List.getD_eq_getElem?_getD, List.getElem?_eq_getElem hi] using this
/-- A store into out: the other rows' cells stay. -/
theorem St.set_out (h : St w0 w (.slice (some ⟨g, 0, none⟩) n c) vp ve vi out op els ins) (i : Nat) (x : Int) : St w0 (w.setCell ⟨g, i, none⟩ (.int .i64 x)) (.slice (some ⟨g, 0, none⟩) n c) vp ve vi (out.set i x) op els ins ∧ BoxKept w (w.setCell ⟨g, i, none⟩ (.int .i64 x)) ∧ (∀ k, vi.ownBlock = some k → ∀ j, (w.setCell ⟨g, i, none⟩ (.int .i64 x)).cell? ⟨k, j, none⟩ = w.cell? ⟨k, j, none⟩) := by
  obtain ⟨⟨tag, r1, r2, r3, r4⟩, hB⟩ := h
  obtain ⟨hR, hg⟩ := Kd.R_putg (enc := Value.int .i64) (h1 := fun _ => rfl) r1 (i : Int) x
  rw [Int.toNat_natCast] at hR hg
  have hgo : (Value.slice (some ⟨g, 0, none⟩) n c).ownBlock = some g := by simp [Value.ownBlock]
  have h3 := r1.1 g hgo
  have hne : ∀ q, q ≠ 0 → ∀ k, tag k = q → some k ≠ some g := fun q hq k hk he => hq (by injection he with he; subst he; exact hk ▸ h3)
  exact ⟨⟨⟨tag, hR, Kd.R_grown r2 hg (hne 1 (by decide)), Kd.R_grown r3 hg (hne 2 (by decide)), Kd.S_grown r4 hg (hne 3 (by decide))⟩, below_set hB (Kd.R_base r1 g hgo)⟩, fun b cs hc => box_stays (v := .slice (some ⟨g, 0, none⟩) n c) (Kd.R_typed r1) (by rw [hgo]; exact hg) (by decide) hc, fun k hk j => World.cell?_of_block (hg.block k (Kd.S_lt r4 k hk) (hne 3 (by decide) k ((Kd.S_R r4).1 k hk)))⟩
/-- The value of an inner row. -/
theorem St.ins_cell (h : St w0 w vo vp ve (.slice (some ⟨g, 0, none⟩) n c) out op els ins) (i : Nat) (hi : i < ins.length) : ∃ A m, w.cell? ⟨g, i, none⟩ = some (.slice A ins[i].length m) ∧ w.frozen? ⟨g, i, none⟩ = false ∧ ReadsInt w .i64 A ins[i].length ins[i] := by
  obtain ⟨⟨tag, r1, r2, r3, r4⟩, hB⟩ := h
  have hn := (Kd.S_reads' r4).1
  obtain ⟨oki, cc, hcl, hM, hcc, hfr, hok, hH⟩ := Kd.S_elem r4 [] (i : Int) (by omega) (by omega)
  obtain ⟨u, rfl, hR⟩ := hM
  rw [Int.toNat_natCast] at hcc hfr hR
  have e : ins.getD i [] = ins[i] := by simp [List.getD_eq_getElem?_getD, List.getElem?_eq_getElem hi]
  rw [e] at hR
  obtain ⟨A, m, rfl, hm, hC⟩ := Kd.R_reads hR
  have h0 := hcc 0 _ rfl
  have f0 := hfr 0
  rw [show i * dL.sz + 0 = i from by show i * 1 + 0 = i; omega] at h0 f0
  exact ⟨A, m, h0, f0, Kd.reads_of_C (enc := Value.int .i64) (d := (0 : Int)) (h1 := fun _ => rfl) hC⟩
/-- The same, the cell being known: what is read. -/
theorem St.ins_reads (h : St w0 w vo vp ve (.slice (some ⟨g, 0, none⟩) n c) out op els ins) (i : Nat) (hi : i < ins.length) {A : Option Addr} {m l : Nat} (hc : w.cell? ⟨g, i, none⟩ = some (.slice A l m)) : ReadsInt w .i64 A ins[i].length ins[i] := by
  obtain ⟨A', m', h0, _, h2⟩ := h.ins_cell i hi
  rw [h0] at hc
  injection hc with hc
  injection hc with e1 e2 e3
  subst e1
  exact h2
theorem St.takes (h : St w0 w vo vp ve vi out op els ins) {Ap Ae Ai : Option Addr} {np ne ni cp ce ci m : Nat} (ep : vp = .slice Ap np cp) (ee : ve = .slice Ae ne ce) (ei : vi = .slice Ai ni ci) (h1 : m ≤ op.length) (h2 : m ≤ els.length) (h3 : m ≤ ins.length) : St w0 w vo (.slice Ap m cp) (.slice Ae m ce) (.slice Ai m ci) out (op.take m) (els.take m) (ins.take m) := by
  subst ep; subst ee; subst ei
  obtain ⟨⟨tag, r1, r2, r3, r4⟩, hB⟩ := h
  exact ⟨⟨tag, r1, Kd.R_take r2 h1, Kd.R_take r3 h2, Kd.S_take r4 h3⟩, hB⟩
/-- The rows while an inner one is between two stores. -/
structure Hole (w0 w : World) (vo vp ve : Value) (g n c : Nat) (out op : List Int) (els : List Bool) (ins : List (List Int)) (i : Nat) (u : Value) (row : List Int) : Prop where
  rows : ∃ tag : Nat → Nat, dI.R 3 w w0.heap.size (fun k => tag k = 0) vo out ∧ dI.R 3 w w0.heap.size (fun k => tag k = 1) vp op ∧ Kd.bool.R 4 w w0.heap.size (fun k => tag k = 2) ve els ∧ ∃ oki cc, cc.length = 1 ∧ dI.R 3 w w0.heap.size oki u row ∧ Kd.H dL 52 w w0.heap.size (fun k => tag k = 3) (.slice (some ⟨g, 0, none⟩) n c) ins (i : Int) oki cc
  bel : Below w0.heap.size w0 w
end
section
variable {ops : Array Oper} {rest : List Oper} {o : Oper} {a : Act} {Q : Exit → Act → World → Prop} {w0 W : World} {vo vp ve vi : Value} {out op : List Int} {els : List Bool} {ins : List (List Int)} {g n c : Nat}
/-- append(inside[i], x) -/
theorem St.app_top (h : St w0 W vo vp ve (.slice (some ⟨g, 0, none⟩) n c) out op els ins) (i : Nat) (hi : i < ins.length) (x : Int) (hl : ins[i].length ≤ 100000) (u : Value) (hu : W.cell? ⟨g, i, none⟩ = some u) (hgd : o.guard = none) (s y : Operand) (ho : o.op = .call { callee := .builtin .append, args := #[s, y], argTypes := #[52, 52] })
    (hs : a.eval s = u) (b : Nat) (hy : a.eval y = .slice (some ⟨b, 0, none⟩) 1 1) (hb : b = W.heap.size)
    (K : ∀ v1 w1, Hole w0 w1 vo vp ve g n c out op els ins i v1 (ins[i] ++ [x]) → BoxKept W w1 → wpList Try.prog ops Q rest (a.put o.dst v1) w1) : wpList Try.prog ops Q (o :: rest) a (W.alloc (.cells #[.int .i64 x] 3)) := by
  subst hb
  obtain ⟨⟨tag, r1, r2, r3, r4⟩, hB⟩ := h
  have fo := ft_old tag W.heap.size 3
  have hn := (Kd.S_reads' r4).1
  obtain ⟨oki, cc, hcl, hM, hcc, hfr, hok, hH⟩ := Kd.S_elem (S_retag r4 fo) [] (i : Int) (by omega) (by omega)
  obtain ⟨u', rfl, hR⟩ := hM
  rw [Int.toNat_natCast] at hcc hR
  have e : ins.getD i [] = ins[i] := by simp [List.getD_eq_getElem?_getD, List.getElem?_eq_getElem hi]
  rw [e] at hR
  have h0 := hcc 0 _ rfl
  rw [show i * dL.sz + 0 = i from by show i * 1 + 0 = i; omega, hu] at h0
  injection h0 with h0
  subst h0
  have hW := Kd.H_widen hH
  have hR' : dI.R 3 W w0.heap.size (fun k => oki k ∨ ft tag W.heap.size 3 k = 3 ∧ W.heap.size ≤ k) u ins[i] := Kd.R_mono hR (fun k hk => .inl hk)
  refine Kd.R_append dI (w0 := w0) w0.heap.size hgd s y 52 3 (.int .i64 0) 8 ho Try.underlying52 info_int rfl (by decide) (by decide) u ins[i] x [.int .i64 x] (fun k => oki k ∨ ft tag W.heap.size 3 k = 3 ∧ W.heap.size ≤ k) (fun _ => False) hs hy rfl (fun _ hk => hk.elim) (fun k hk => .inr ⟨ft_new tag _ 3 k hk, hk⟩) hR' hB hB.size (by omega) ?_
  intro v1 w1 hR1 hb1 hg _
  have h3 : ∀ k, u.ownBlock = some k → ft tag W.heap.size 3 k = 3 := fun k hk => by
    rcases hR'.1 k hk with h | h
    · exact (hok k h).1
    · exact h.1
  have hne : ∀ q, q ≠ 3 → ∀ k, ft tag W.heap.size 3 k = q → some k ≠ u.ownBlock := fun q hq k hk he => hq (hk ▸ h3 k he.symm)
  exact K v1 w1 ⟨⟨ft tag W.heap.size 3, Kd.R_grown (R_retag r1 fo) hg (hne 0 (by decide)), Kd.R_grown (R_retag r2 fo) hg (hne 1 (by decide)), Kd.R_grown (R_retag r3 fo) hg (hne 2 (by decide)), _, _, rfl, hR1, Kd.H_grown hW hg (fun k hk => hR'.1 k hk)⟩, hb1⟩ (fun b cs hc => box_stays (Kd.R_typed hR) hg (by decide) hc)
/-- inside[i] = (what was appended to) -/
theorem Hole.store {u : Value} {row : List Int} {i : Nat} (h : Hole w0 W vo vp ve g n c out op els ins i u row) (hi : i < n) (hN : o.dst = none) (hgd : o.guard = none) (p x : Operand) (ho : o.op = .store 52 p x)
    (haddr : a.eval p = .pointer (some ⟨g, i, none⟩)) (hx : a.eval x = u)
    (K : ∀ w1, St w0 w1 vo vp ve (.slice (some ⟨g, 0, none⟩) n c) out op els (ins.set i row) → BoxKept W w1 → wpList Try.prog ops Q rest a w1) : wpList Try.prog ops Q (o :: rest) a W := by
  obtain ⟨⟨tag, r1, r2, r3, oki, cc, hcl, hR, hH⟩, hB⟩ := h
  have hc1 : cc.take 0 ++ [u] ++ cc.drop (0 + 1) = [u] := by rw [List.drop_of_length_le (by omega)]; simp
  have hok : ∀ k, oki k → tag k = 3 := hH.1
  refine Kd.H_store dL (w0 := w0) w0.heap.size hN hgd 52 p x ho 52 (i : Int) 0 ins row u [u] cc (fun k => tag k = 3) oki oki haddr (by show i = i * 1 + 0; omega) hx (Kd.R_val hR).1 (by kernel_rfl) (by intro q hq; rw [List.mem_singleton.1 hq]; exact (Kd.R_val hR).2) hH (by omega) (by omega) (Nat.le_refl 1) (by rw [show cc.take 0 ++ [u] ++ cc.drop (0 + [u].length) = [u] from hc1]; exact ⟨u, rfl, hR⟩) (fun _ hk => hk) hB ?_
  intro w1 hS hb hg
  rw [Int.toNat_natCast] at hS
  have h3 : tag g = 3 := by
    obtain ⟨_, f, hF⟩ := hH
    exact (hF.1 g (by simp [Value.ownBlock])).1
  have hgt : ∃ cells, W.heap[g]? = some (Obj.cells cells 52 (0, 0)) := by
    obtain ⟨_, f, hF⟩ := hH
    exact Kd.R_typed hF g (by simp [Value.ownBlock])
  have hne : ∀ q, q ≠ 3 → ∀ k, tag k = q → some k ≠ some g := fun q hq k hk he => hq (by injection he with he; subst he; exact hk ▸ h3)
  exact K w1 ⟨⟨tag, Kd.R_grown r1 hg (hne 0 (by decide)), Kd.R_grown r2 hg (hne 1 (by decide)), Kd.R_grown r3 hg (hne 2 (by decide)), hS⟩, hb⟩ (fun b cs hc => blk_grown hc hg (fun he => by
    injection he with he
    subst he
    obtain ⟨cells, hcc⟩ := hgt
    rw [hc] at hcc
    injection hcc with hcc
    injection hcc with _ hcc
    exact absurd hcc (by decide)))
end
theorem St.init {w0 X : World} (hB : Below w0.heap.size w0 X) (n : Nat) (hn : n ≤ 1048576) (x : Int) (y : Bool) : St w0 (((X.alloc (.cells (madeCells #[.int .i64 0] n) 3)).alloc (.cells #[.int .i64 x] 3)).alloc (.cells #[.bool y] 4)) (.slice (some ⟨X.heap.size, 0, none⟩) n n) (.slice (some ⟨X.heap.size + 1, 0, none⟩) 1 1) (.slice (some ⟨X.heap.size + 1 + 1, 0, none⟩) 1 1) (.slice none 0 0) (List.replicate n 0) [x] [y] [] := by
  have s1 : (X.alloc (.cells (madeCells #[.int .i64 0] n) 3)).heap.size = X.heap.size + 1 := by simp
  have s2 : ((X.alloc (.cells (madeCells #[.int .i64 0] n) 3)).alloc (.cells #[.int .i64 x] 3)).heap.size = X.heap.size + 1 + 1 := by simp
  have hb := hB.size
  refine ⟨⟨fun k => if k = X.heap.size then 0 else if k = X.heap.size + 1 then 1 else 2, ?_, ?_, ?_, Kd.S_nil _ _ _ _ _⟩, below_alloc (below_alloc (below_alloc hB _) _) _⟩
  · refine Kd.R_alloc (Kd.R_alloc (Kd.R_of_own (enc := Value.int .i64) (h1 := fun _ => rfl) ?_ (fun k hk => ?_)) _) _
    · have := own_made X w0.heap.size 3 .i64 n hb (by omega)
      rw [List.length_replicate]
      exact this
    · simp [Value.ownBlock] at hk; subst hk; exact if_pos rfl
  · refine Kd.R_alloc (Kd.R_of_own (enc := Value.int .i64) (h1 := fun _ => rfl) ?_ (fun k hk => ?_)) _
    · have := own_lit (X.alloc (.cells (madeCells #[.int .i64 0] n) 3)) w0.heap.size 3 .i64 [x] (by omega) (by simp)
      rw [s1] at this
      exact this
    · simp [Value.ownBlock] at hk; subst hk; show (if _ then _ else _) = _; rw [if_neg (by omega), if_pos rfl]
  · refine Kd.R_of_own (enc := Value.bool) (h1 := fun _ => rfl) ?_ (fun k hk => ?_)
    · have := own_lit_of (enc := Value.bool) ((X.alloc (.cells (madeCells #[.int .i64 0] n) 3)).alloc (.cells #[.int .i64 x] 3)) w0.heap.size 4 [y] (by omega) (by simp)
      rw [s2] at this
      exact this
    · simp [Value.ownBlock] at hk; subst hk; show (if _ then _ else _) = _; rw [if_neg (by omega), if_neg (by omega)]
section
variable {w0 w w1 : World} {vo vp ve vi : Value} {out op : List Int} {els : List Bool} {ins : List (List Int)} {g n c : Nat}
theorem St.op_pos (h : St w0 w vo vp ve vi out op els ins) (hp : 0 < op.length) : ∃ g c, vp = .slice (some ⟨g, 0, none⟩) op.length c ∧ op.length ≤ c := by
  obtain ⟨⟨tag, r1, r2, r3, r4⟩, hB⟩ := h
  obtain ⟨g, c, rfl, _⟩ := Kd.R_form r2 hp
  exact ⟨g, c, rfl, (Kd.R_reads' r2).2.1⟩
theorem St.op_cell (h : St w0 w vo (.slice (some ⟨g, 0, none⟩) n c) ve vi out op els ins) (i : Nat) (hi : i < op.length) : w.cell? ⟨g, i, none⟩ = some (.int .i64 op[i]) ∧ w.frozen? ⟨g, i, none⟩ = false := by
  obtain ⟨⟨tag, r1, r2, r3, r4⟩, hB⟩ := h
  have hn := (Kd.R_reads' r2).1
  have := Kd.R_celln (enc := Value.int .i64) (h1 := fun _ => rfl) 0 r2 (i : Int) (by omega) (by omega)
  rw [Int.toNat_natCast] at this
  simpa [rdOf, List.getD_eq_getElem?_getD, List.getElem?_eq_getElem hi] using this
theorem St.set_op (h : St w0 w vo (.slice (some ⟨g, 0, none⟩) n c) ve vi out op els ins) (i : Nat) (x : Int) : St w0 (w.setCell ⟨g, i, none⟩ (.int .i64 x)) vo (.slice (some ⟨g, 0, none⟩) n c) ve vi out (op.set i x) els ins := by
  obtain ⟨⟨tag, r1, r2, r3, r4⟩, hB⟩ := h
  obtain ⟨hR, hg⟩ := Kd.R_putg (enc := Value.int .i64) (h1 := fun _ => rfl) r2 (i : Int) x
  rw [Int.toNat_natCast] at hR hg
  have hgo : (Value.slice (some ⟨g, 0, none⟩) n c).ownBlock = some g := by simp [Value.ownBlock]
  have h3 := r2.1 g hgo
  have hne : ∀ q, q ≠ 1 → ∀ k, tag k = q → some k ≠ some g := fun q hq k hk he => hq (by injection he with he; subst he; exact hk ▸ h3)
  exact ⟨⟨tag, Kd.R_grown r1 hg (hne 0 (by decide)), hR, Kd.R_grown r3 hg (hne 2 (by decide)), Kd.S_grown r4 hg (hne 3 (by decide))⟩, below_set hB (Kd.R_base r2 g hgo)⟩
theorem St.take_op {A : Option Addr} {m : Nat} (h : St w0 w vo (.slice A n c) ve vi out op els ins) (hm : m ≤ op.length) : St w0 w vo (.slice A m c) ve vi out (op.take m) els ins := by
  obtain ⟨⟨tag, r1, r2, r3, r4⟩, hB⟩ := h
  exact ⟨⟨tag, r1, Kd.R_take r2 hm, r3, r4⟩, hB⟩
/-- One row alone. -/
theorem St.init1 {w0 X : World} (hB : Below w0.heap.size w0 X) (x : Int) : St w0 (X.alloc (.cells #[.int .i64 x] 3)) (.slice none 0 0) (.slice (some ⟨X.heap.size, 0, none⟩) 1 1) (.slice none 0 0) (.slice none 0 0) [] [x] [] [] := by
  refine ⟨⟨fun _ => 1, Kd.R_nil _ _ _ _ _, ?_, Kd.R_nil _ _ _ _ _, Kd.S_nil _ _ _ _ _⟩, below_alloc hB _⟩
  exact Kd.R_of_own (enc := Value.int .i64) (h1 := fun _ => rfl) (own_lit X w0.heap.size 3 .i64 [x] hB.size (by simp)) (fun k hk => rfl)
/-- A row made and an empty one. -/
theorem St.init2 {w0 X : World} (hB : Below w0.heap.size w0 X) (n : Nat) (hn : n ≤ 1048576) : St w0 ((X.alloc (.cells (madeCells #[.int .i64 0] n) 3)).alloc (.cells #[] 3)) (.slice (some ⟨X.heap.size, 0, none⟩) n n) (.slice (some ⟨X.heap.size + 1, 0, none⟩) 0 0) (.slice none 0 0) (.slice none 0 0) (List.replicate n 0) [] [] [] := by
  have s1 : (X.alloc (.cells (madeCells #[.int .i64 0] n) 3)).heap.size = X.heap.size + 1 := by simp
  have hb := hB.size
  refine ⟨⟨fun k => if k = X.heap.size then 0 else 1, ?_, ?_, Kd.R_nil _ _ _ _ _, Kd.S_nil _ _ _ _ _⟩, below_alloc (below_alloc hB _) _⟩
  · refine Kd.R_alloc (Kd.R_of_own (enc := Value.int .i64) (h1 := fun _ => rfl) ?_ (fun k hk => ?_)) _
    · have := own_made X w0.heap.size 3 .i64 n hb (by omega)
      rw [List.length_replicate]
      exact this
    · simp [Value.ownBlock] at hk; subst hk; exact if_pos rfl
  · refine Kd.R_of_own (enc := Value.int .i64) (h1 := fun _ => rfl) ?_ (fun k hk => ?_)
    · have := own_lit (X.alloc (.cells (madeCells #[.int .i64 0] n) 3)) w0.heap.size 3 .i64 [] (by omega) (by simp)
      rw [s1] at this
      exact this
    · simp [Value.ownBlock] at hk; subst hk; show (if _ then _ else _) = _; rw [if_neg (by omega)]
end
end Go.Proofs.Ytfncjcnlndoelaa.OwnSt
