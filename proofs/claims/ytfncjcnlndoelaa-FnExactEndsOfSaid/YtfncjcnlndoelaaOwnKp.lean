/- Kinds told again under other names; instructions as pairs of numbers; rows of bytes and texts; no condition of its own. -/
import Derived.Test.YtfncjcnlndoelaaOwnBs
namespace Go.Proofs.Ytfncjcnlndoelaa.OwnKp
open Go Go.RowKit Go.Proofs.YtfncjcnlndoelaaW.PrintWords Go.Proofs.YtfncjcnlndoelaaW.PrintLast Go.Proofs.YtfncjcnlndoelaaW.PrintMore Go.Proofs.Ytfncjcnlndoelaa.OwnBs
set_option linter.unusedVariables false
set_option linter.unusedSimpArgs false
theorem C_iso {α β : Type} {d : Kd α} {f : β → α} {w : World} {A : Option Addr} {n : Nat} {l : List β} : Kd.C (Kd.iso d f) w A n l ↔ Kd.C d w A n (l.map f) := by
  constructor
  · rintro ⟨h1, h2, h3⟩
    refine ⟨by rw [List.length_map]; exact h1, h2, fun hn => ?_⟩
    obtain ⟨ad, e, h4⟩ := h3 hn
    refine ⟨ad, e, fun j p hj => ?_⟩
    rw [List.getElem?_map, Option.map_eq_some_iff] at hj
    obtain ⟨x, hx, rfl⟩ := hj
    exact h4 j x hx
  · rintro ⟨h1, h2, h3⟩
    refine ⟨by rw [List.length_map] at h1; exact h1, h2, fun hn => ?_⟩
    obtain ⟨ad, e, h4⟩ := h3 hn
    refine ⟨ad, e, fun j p hj => ?_⟩
    exact h4 j (f p) (by rw [List.getElem?_map, hj]; rfl)
theorem C_ofmap {α β : Type} {d : Kd α} {f : β → α} {g : α → β} (hfg : ∀ a, f (g a) = a) {w : World} {A : Option Addr} {n : Nat} {l : List α} (h : Kd.C d w A n l) : Kd.C (Kd.iso d f) w A n (l.map g) := by
  rw [C_iso, List.map_map, show f ∘ g = id from funext hfg, List.map_id]
  exact h
theorem C_tomap {α β : Type} {d : Kd α} {f : β → α} {w : World} {A : Option Addr} {n : Nat} {l : List β} (h : Kd.C (Kd.iso d f) w A n l) : Kd.C d w A n (l.map f) := C_iso.1 h
/-- An instruction: two numbers. -/
abbrev kI : Kd (Int × Int) := Kd.pair (Kd.int .i64) (Kd.int .i64)
theorem at_ins {w : World} {A : Option Addr} {n : Nat} {l : List (Int × Int)} (h : Kd.C kI w A n l) (i : Nat) (hi : i < l.length) : ∃ ad, A = some ad ∧ w.cell? (ad.add (i * 2)) = some (.int .i64 l[i].1) ∧ w.cell? ⟨(ad.add (i * 2)).block, (ad.add (i * 2)).off + 1, none⟩ = some (.int .i64 l[i].2) := by
  obtain ⟨h1, h2, h3⟩ := h
  obtain ⟨ad, e, h4⟩ := h3 (by omega)
  obtain ⟨c, hc, hk, hu⟩ := h4 i l[i] (List.getElem?_eq_getElem hi)
  obtain ⟨c0, c1, rfl, k0, k1⟩ := hk
  have e0 : c0 = [.int .i64 l[i].1] := k0
  have e1 : c1 = [.int .i64 l[i].2] := k1
  subst e0; subst e1
  refine ⟨ad, e, ?_, ?_⟩
  · exact hu 0 _ rfl
  · rw [← add_field ad (i * 2) 1 (by decide)]
    exact hu 1 _ rfl
/-! ### Texts and rows of bytes -/
theorem bytesOf_strOfNums (l : List Int) (h : ∀ x ∈ l, 0 ≤ x ∧ x < 256) : bytesOf (strOfNums l) = l := by
  unfold bytesOf strOfNums
  simp only [List.map_map]
  apply List.ext_getElem
  · simp
  · intro i h1 h2
    simp only [List.getElem_map, Function.comp_apply]
    have := h l[i] (List.getElem_mem h2)
    simp
    omega
theorem strOfNums_bytesOf (s : ByteArray) : strOfNums (bytesOf s) = s := by
  unfold bytesOf strOfNums
  rw [List.map_map, show ((fun n : Int => UInt8.ofNat n.toNat) ∘ fun b : UInt8 => (b.toNat : Int)) = id from funext fun b => by simp, List.map_id]
theorem strOfNums_append (a b : List Int) : strOfNums (a ++ b) = strOfNums a ++ strOfNums b := by
  unfold strOfNums
  rw [List.map_append]
  apply ByteArray.ext
  simp
theorem bytesOf_append (a b : ByteArray) : bytesOf (a ++ b) = bytesOf a ++ bytesOf b := by
  unfold bytesOf
  simp
section
variable {ops : Array Oper} {rest : List Oper} {o : Oper} {a : Act} {Q : Exit → Act → World → Prop}
/-- append(v, s...), s a text. -/
theorem app_str {w0 W : World} (hgd : o.guard = none) (s x : Operand) (ho : o.op = .call { callee := .builtin .append, args := #[s, x], argTypes := #[77, 9] })
    (v : Value) (l : List Int) (y : ByteArray) (hs : a.eval s = v) (hx : a.eval x = .string y) (HB : Bs w0 W v l) (hl : l.length + y.size ≤ 1000000)
    (h : ∀ v1 w1, Bs w0 w1 v1 (l ++ bytesOf y) → wpList Try.prog ops Q rest (a.put o.dst v1) w1) : wpList Try.prog ops Q (o :: rest) a W := by
  refine print_append_str (w0 := w0) w0.heap.size hgd s x 77 9 5 ho Try.underlying77 Try.underlying9 info_u8 v l y hs hx HB.own HB.bel HB.bel.size (by omega) ?_
  intro v1 w1 h1 h2 _
  exact h v1 w1 ⟨h1, h2⟩
end
/-- string([]byte{..}) of what was laid just now. -/
theorem lit_str (l : List Int) (hl : l.length ≤ 1000000) (X : World) : (convert 77 9 (.slice (some ⟨X.heap.size, 0, none⟩) l.length l.length)).run Try.prog (X.alloc (.cells (nums .u8 l).toArray 5)) = .ok (.string (strOfNums l)) (X.alloc (.cells (nums .u8 l).toArray 5)) :=
  own_string (P := Try.prog) Try.underlying77 Try.underlying5 Try.underlying9 (Bs.lit (w0 := X) (Below.refl _ _) l hl).own
theorem lit1_str (x : Int) (X : World) : (convert 77 9 (.slice (some ⟨X.heap.size, 0, none⟩) 1 1)).run Try.prog (X.alloc (.cells #[.int .u8 x] 5)) = .ok (.string (strOfNums [x])) (X.alloc (.cells #[.int .u8 x] 5)) := lit_str [x] (by simp) X
theorem lit1_str1 (x : Int) (X : World) (o : Obj) : (convert 77 9 (.slice (some ⟨X.heap.size + 1, 0, none⟩) 1 1)).run Try.prog ((X.alloc o).alloc (.cells #[.int .u8 x] 5)) = .ok (.string (strOfNums [x])) ((X.alloc o).alloc (.cells #[.int .u8 x] 5)) := by
  have := lit1_str x (X.alloc o)
  rwa [show (X.alloc o).heap.size = X.heap.size + 1 by simp] at this
theorem lit1_str2 (x : Int) (X : World) (o o2 : Obj) (n : Nat) : (convert 77 9 (.slice (some ⟨X.heap.size + 1 + 1, 0, none⟩) 1 1)).run Try.prog ((((X.alloc o).alloc o2).drewN n).alloc (.cells #[.int .u8 x] 5)) = .ok (.string (strOfNums [x])) ((((X.alloc o).alloc o2).drewN n).alloc (.cells #[.int .u8 x] 5)) := by
  have := lit1_str x (((X.alloc o).alloc o2).drewN n)
  rwa [show (((X.alloc o).alloc o2).drewN n).heap.size = X.heap.size + 1 + 1 by simp] at this
end Go.Proofs.Ytfncjcnlndoelaa.OwnKp
