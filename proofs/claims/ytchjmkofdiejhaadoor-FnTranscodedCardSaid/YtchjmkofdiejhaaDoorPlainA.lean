/- Plain lemmas on bits, bytes, rounds, lists and texts; no condition of its own. -/
import Derived.Test.YtchjmkofdiejhaaDoorWMore
import Derived.Laws.BitsLemmas
namespace Go.Proofs.YtchjmkofdiejhaaDoor.Pl
open Go Go.RowKit Go.Proofs.YtchjmkofdiejhaaDoorW.PrintWords Go.Proofs.YtchjmkofdiejhaaDoorW.PrintLast Go.Proofs.YtchjmkofdiejhaaDoorW.PrintMore
set_option linter.unusedVariables false
set_option linter.unusedSimpArgs false

/-! ### wrap -/
theorem wrap_u64 (n : Int) : IntKind.u64.wrap n = n % 18446744073709551616 := by simp [IntKind.wrap, IntKind.bits, IntKind.signed]
theorem wrap_u16 (n : Int) : IntKind.u16.wrap n = n % 65536 := by simp [IntKind.wrap, IntKind.bits, IntKind.signed]
theorem wrap_small (k : IntKind) (v : Int) (h0 : 0 ≤ v) (h1 : v < 2 ^ (k.bits - 1)) : k.wrap v = v := by
  cases k <;> simp only [IntKind.wrap, IntKind.bits, IntKind.signed] at * <;> simp at * <;> omega
theorem wf_u64 {a : Int} (h : (Lit.int .u64 a).wf = true) : 0 ≤ a ∧ a < 18446744073709551616 := by
  simp [Lit.wf, IntKind.min, IntKind.max, IntKind.signed, IntKind.bits] at h; omega
theorem wf_u32 {a : Int} (h : (Lit.int .u32 a).wf = true) : 0 ≤ a ∧ a < 4294967296 := by
  simp [Lit.wf, IntKind.min, IntKind.max, IntKind.signed, IntKind.bits] at h; omega
theorem wf_i64 {a : Int} (h : (Lit.int .i64 a).wf = true) : -9223372036854775808 ≤ a ∧ a < 9223372036854775808 := by
  simp [Lit.wf, IntKind.min, IntKind.max, IntKind.signed, IntKind.bits] at h; omega
theorem w64 {n : Int} (h0 : -9223372036854775808 ≤ n) (h1 : n < 9223372036854775808) : wrap64 n = n := by unfold wrap64; omega

/-! ### bits -/
theorem toNat_ofInt (n : Nat) (x : Int) : (BitVec.ofInt n x).toNat = (x % 2 ^ n).toNat := by simp [BitVec.toNat_ofInt]
theorem pow_int (i : Nat) : ((2 ^ i : Nat) : Int) = (2 : Int) ^ i := by simp
theorem bits_and_nat (k : IntKind) (x y : Int) : bits .and k x y = k.wrap (((x % 2 ^ k.bits).toNat &&& (y % 2 ^ k.bits).toNat : Nat) : Int) := by
  simp only [bits, BitVec.toNat_and, toNat_ofInt]
theorem bits_or_nat (k : IntKind) (x y : Int) : bits .or k x y = k.wrap (((x % 2 ^ k.bits).toNat ||| (y % 2 ^ k.bits).toNat : Nat) : Int) := by
  simp only [bits, BitVec.toNat_or, toNat_ofInt]
theorem bits_xor_nat (k : IntKind) (x y : Int) : bits .xor k x y = k.wrap (((x % 2 ^ k.bits).toNat ^^^ (y % 2 ^ k.bits).toNat : Nat) : Int) := by
  simp only [bits, BitVec.toNat_xor, toNat_ofInt]
theorem or_comm (k : IntKind) (x y : Int) : bits .or k x y = bits .or k y x := by
  rw [bits_or_nat, bits_or_nat, Nat.or_comm]
theorem and_comm' (k : IntKind) (x y : Int) : bits .and k x y = bits .and k y x := by
  rw [bits_and_nat, bits_and_nat, Nat.and_comm]
/-- The lowest i bits. -/
theorem and_mask (k : IntKind) (i : Nat) (hi : i < k.bits) (x : Int) : bits .and k x (2 ^ i - 1) = x % 2 ^ i := by
  have hp : (0 : Int) < 2 ^ i := Int.pow_pos (by decide)
  have hlt : (2 : Int) ^ i < 2 ^ k.bits := by
    rw [← pow_int, ← pow_int]; exact_mod_cast Nat.pow_lt_pow_right (by decide) hi
  have hm : ((2 : Int) ^ i - 1) % 2 ^ k.bits = 2 ^ i - 1 := Int.emod_eq_of_lt (by omega) (by omega)
  have ht : ((2 : Int) ^ i - 1).toNat = 2 ^ i - 1 := by
    have : ((2 : Int) ^ i) = ((2 ^ i : Nat) : Int) := (pow_int i).symm
    rw [this]; omega
  rw [bits_and_nat, hm, ht, Nat.and_two_pow_sub_one_eq_mod]
  have hd : ((2 : Int) ^ i) ∣ 2 ^ k.bits := ⟨2 ^ (k.bits - i), by rw [← Int.pow_add]; congr 1; omega⟩
  have hnn : 0 ≤ x % 2 ^ k.bits := Int.emod_nonneg _ (by omega)
  have hc : (((x % 2 ^ k.bits).toNat % 2 ^ i : Nat) : Int) = x % 2 ^ i := by
    rw [Int.natCast_emod, Int.toNat_of_nonneg hnn, pow_int, Int.emod_emod_of_dvd _ hd]
  rw [hc]
  have h0 : 0 ≤ x % 2 ^ i := Int.emod_nonneg _ (by omega)
  have h1 : x % 2 ^ i < 2 ^ i := Int.emod_lt_of_pos _ hp
  refine wrap_small k _ h0 (Int.lt_of_lt_of_le h1 ?_)
  rw [← pow_int, ← pow_int]; exact_mod_cast Nat.pow_le_pow_right (by decide) (by omega)
theorem and127 (k : IntKind) (hk : 7 < k.bits) (x : Int) : bits .and k x 127 = x % 128 := and_mask k 7 hk x
theorem and1 (k : IntKind) (hk : 1 < k.bits) (x : Int) : bits .and k x 1 = x % 2 := and_mask k 1 hk x
theorem and_u32max (x : Int) : bits .and .u64 x 4294967295 = x % 4294967296 := and_mask .u64 32 (by decide) x
/-- A number below 2^i and one that is a multiple of 2^i, joined. -/
theorem or_join_u64 (i : Nat) (x y : Int) (hx0 : 0 ≤ x) (hx1 : x < 2 ^ i) (hy0 : 0 ≤ y) (hy : y % 2 ^ i = 0) (hx2 : x < 18446744073709551616) (hy1 : y < 18446744073709551616) : bits .or .u64 x y = x + y := by
  rw [or_comm, bits_join .u64 64 (by decide) (fun n h0 h1 => by rw [wrap_u64]; omega) i y x hy0 hy (by simpa using hy1) hx0 hx1 (by simpa using hx2)]
  omega
/-! ### bytes -/
theorem or_u8_128 (v : Int) (h0 : 0 ≤ v) (h1 : v < 256) : bits .or .u8 v 128 = v % 128 + 128 := by
  have key : ∀ v : Fin 256, bits .or .u8 (v.val : Int) 128 = (v.val : Int) % 128 + 128 := by decide +kernel
  have := key ⟨v.toNat, by omega⟩
  simp only [Int.toNat_of_nonneg h0] at this
  exact this
theorem strOfNums_size (xs : List Int) : (strOfNums xs).size = xs.length := by
  simp [strOfNums, ByteArray.size]
end Go.Proofs.YtchjmkofdiejhaaDoor.Pl
namespace Go.Proofs.YtchjmkofdiejhaaDoor.Pl
open Go Go.RowKit Go.Proofs.YtchjmkofdiejhaaDoorW.PrintWords Go.Proofs.YtchjmkofdiejhaaDoorW.PrintLast Go.Proofs.YtchjmkofdiejhaaDoorW.PrintMore
set_option linter.unusedVariables false
set_option linter.unusedSimpArgs false
/-! ### rounds -/
theorem ev_skip {α : Type} {g f : Nat → Option α} {r : α} (n : Nat) (h : ∀ k, g (k + n) = f k) (e : Ev f r) : Ev g r := by
  obtain ⟨K, e⟩ := e
  refine ⟨K + n, fun k hk => ?_⟩
  have := h (k - n)
  rw [Nat.sub_add_cancel (by omega)] at this
  rw [this]
  exact e _ (by omega)
theorem ev_const {α : Type} {g : Nat → Option α} {r : α} (n : Nat) (h : ∀ k, g (k + n) = some r) : Ev g r := ev_skip n h (Ev.now r)
theorem ev_uniq {α : Type} {g : Nat → Option α} {r r' : α} (h : Ev g r) (h' : Ev g r') : r = r' := by
  obtain ⟨K, e⟩ := h
  obtain ⟨K', e'⟩ := h'
  have h1 := e (K + K') (by omega)
  have h2 := e' (K + K') (by omega)
  rw [h1] at h2
  exact Option.some.inj h2
end Go.Proofs.YtchjmkofdiejhaaDoor.Pl
namespace Go.Proofs.YtchjmkofdiejhaaDoor.Pl
open Go Go.RowKit Go.Proofs.YtchjmkofdiejhaaDoorW.PrintWords Go.Proofs.YtchjmkofdiejhaaDoorW.PrintLast Go.Proofs.YtchjmkofdiejhaaDoorW.PrintMore
set_option linter.unusedVariables false
set_option linter.unusedSimpArgs false
/-- A list that is filled place by place, in front of what is still as it was made. -/
theorem set_step {α : Type} (l : List α) (z d : α) (i : Nat) (h : i < l.length) : (l.take i ++ List.replicate (l.length - i) z).set i (l.getD i d) = l.take (i + 1) ++ List.replicate (l.length - (i + 1)) z := by
  have e1 : (l.take i).length = i := by rw [List.length_take]; omega
  rw [List.set_append_right _ _ (by omega), e1, Nat.sub_self]
  have e2 : l.length - i = (l.length - (i + 1)) + 1 := by omega
  rw [e2, List.replicate_succ, List.set_cons_zero, List.take_succ_eq_append_getElem h, List.append_assoc]
  simp [List.getD_eq_getElem?_getD, List.getElem?_eq_getElem h]
theorem set_step_len {α : Type} (l : List α) (z : α) (i : Nat) (h : i ≤ l.length) : (l.take i ++ List.replicate (l.length - i) z).length = l.length := by
  rw [List.length_append, List.length_take, List.length_replicate]; omega
theorem rd_at (l : List Int) (i : Nat) (h : i < l.length) : rd l (i : Int) = l[i] := by
  simp [rd, List.getD_eq_getElem?_getD, List.getElem?_eq_getElem h]
theorem rdOf_at {α : Type} (d : α) (l : List α) (i : Nat) (h : i < l.length) : rdOf d l (i : Int) = l[i] := by
  simp [rdOf, List.getD_eq_getElem?_getD, List.getElem?_eq_getElem h]
theorem w64s (i : Nat) (n : Nat) (h : i < n) (hn : n ≤ 9223372036854775807) : wrap64 ((i : Int) + 1) = ((i + 1 : Nat) : Int) := by
  rw [w64 (by omega) (by omega)]; rfl
end Go.Proofs.YtchjmkofdiejhaaDoor.Pl
namespace Go.Proofs.YtchjmkofdiejhaaDoor.Pl
open Go Go.RowKit Go.Proofs.YtchjmkofdiejhaaDoorW.PrintWords Go.Proofs.YtchjmkofdiejhaaDoorW.PrintLast Go.Proofs.YtchjmkofdiejhaaDoorW.PrintMore
set_option linter.unusedVariables false
set_option linter.unusedSimpArgs false
theorem wrap_congr (k : IntKind) {a b : Int} (h : a % 2 ^ k.bits = b % 2 ^ k.bits) : k.wrap a = k.wrap b := by
  simp only [IntKind.wrap, h]
theorem or_join (k : IntKind) (i : Nat) (hi : i ≤ k.bits) (x y : Int) (hx0 : 0 ≤ x) (hx1 : x < 2 ^ i) (hy : y % 2 ^ i = 0) : bits .or k x y = k.wrap (x + y) := by
  have hp : (0 : Int) < 2 ^ i := Int.pow_pos (by decide)
  have hP : (0 : Int) < 2 ^ k.bits := Int.pow_pos (by decide)
  have hle : (2 : Int) ^ i ≤ 2 ^ k.bits := by
    rw [← pow_int, ← pow_int]; exact_mod_cast Nat.pow_le_pow_right (by decide) hi
  have hd : ((2 : Int) ^ i) ∣ 2 ^ k.bits := ⟨2 ^ (k.bits - i), by rw [← Int.pow_add]; congr 1; omega⟩
  have hx : x % 2 ^ k.bits = x := Int.emod_eq_of_lt hx0 (by omega)
  have hy' : (y % 2 ^ k.bits) % 2 ^ i = 0 := by rw [Int.emod_emod_of_dvd _ hd]; exact hy
  have hyn : 0 ≤ y % 2 ^ k.bits := Int.emod_nonneg _ (by omega)
  rw [bits_or_nat, hx, ← wrap_congr k (a := x + y % 2 ^ k.bits) (b := x + y) (by rw [Int.add_emod_emod])]
  congr 1
  obtain ⟨a, ha⟩ := Int.eq_ofNat_of_zero_le hx0
  obtain ⟨b, hb⟩ := Int.eq_ofNat_of_zero_le hyn
  rw [hb] at hy' ⊢
  subst ha
  have hbm : b % 2 ^ i = 0 := by exact_mod_cast hy'
  have hal : a < 2 ^ i := by exact_mod_cast hx1
  have hq : b = 2 ^ i * (b / 2 ^ i) := by
    have := Nat.div_add_mod b (2 ^ i)
    omega
  rw [Int.toNat_natCast, Int.toNat_natCast, Nat.or_comm, hq, ← Nat.two_pow_add_eq_or_of_lt hal (b / 2 ^ i)]
  rw [← hq]
  omega
theorem shl_at (k : IntKind) (x : Int) (n : Nat) (h : n ≤ k.bits) : shl k x (n : Int) = k.wrap (x * 2 ^ n) := by
  unfold shl; rw [Int.toNat_natCast, Nat.min_eq_left h]
theorem shr_at (k : IntKind) (x : Int) (n : Nat) (h : n ≤ k.bits) : shr k x (n : Int) = x / 2 ^ n := by
  unfold shr; rw [Int.toNat_natCast, Nat.min_eq_left h]
end Go.Proofs.YtchjmkofdiejhaaDoor.Pl
namespace Go.Proofs.YtchjmkofdiejhaaDoor.Pl
open Go Go.RowKit Go.Proofs.YtchjmkofdiejhaaDoorW.PrintWords Go.Proofs.YtchjmkofdiejhaaDoorW.PrintLast Go.Proofs.YtchjmkofdiejhaaDoorW.PrintMore
set_option linter.unusedVariables false
set_option linter.unusedSimpArgs false
theorem loop_len (s : ByteArray) : ∀ (m i : Nat) (r : List UInt8), i + m = s.size → (ByteArray.toList.loop s i r).length = m + r.length := by
  intro m
  induction m with
  | zero =>
    intro i r h
    unfold ByteArray.toList.loop
    rw [if_neg (by omega)]
    simp
  | succ m ih =>
    intro i r h
    unfold ByteArray.toList.loop
    rw [if_pos (by omega), ih (i + 1) _ (by omega)]
    simp; omega
theorem toList_len (s : ByteArray) : s.toList.length = s.size := by
  unfold ByteArray.toList
  rw [loop_len s s.size 0 [] (by omega)]; simp
theorem toList_nil (s : ByteArray) : s.toList = [] ↔ s.size = 0 := by
  rw [← toList_len, List.length_eq_zero_iff]
theorem choose_fn {α β : Type} [Inhabited β] {P : α → Prop} {Q : α → β → Prop} (h : ∀ a, P a → ∃ b, Q a b) : ∃ f : α → β, ∀ a, P a → Q a (f a) :=
  ⟨fun a => @dite _ (P a) (Classical.propDecidable _) (fun hp => Classical.choose (h a hp)) (fun _ => default), fun a hp => by simp only [dif_pos hp]; exact Classical.choose_spec (h a hp)⟩
end Go.Proofs.YtchjmkofdiejhaaDoor.Pl
