/- Texts come back from their codes: plain laws; no condition of its own. A cursor over bytes that draws: next, pick, one, among, point, code3: walks of our own; what they tell lies within bounds. A cursor that draws points: walks of our own; what they tell lies within bounds. A cursor that draws texts: walks of our own; what they tell lies within bounds. Transcode: the law, by walks of our own. CountPoints: the law, by walks of our own. A text told in another code and back is itself: the law, by walks of our own. -/
import Derived.Test.YtchjmkofdiejhaaDoorOwnDcK
import Derived.Test.YtchjmkofdiejhaaDoorOwnTextE
import Derived.Test.YtchjmkofdiejhaaDoorOwnIs
import Derived.Deep.RegionHeldLaw
import Derived.Deep.OwnRows
import Derived.Test.YtchjmkofdiejhaaDoorPl2Codex1
import Derived.Laws.Externs
import Derived.Lib.ConvBytes
import Derived.Test.YtchjmkofdiejhaaDoorOwnDcI
namespace Go.Proofs.YtchjmkofdiejhaaDoor.OwnRt
open Go Go.RowKit Go.Proofs.YtchjmkofdiejhaaDoorW.PrintWords Go.Proofs.YtchjmkofdiejhaaDoor.OwnDcP Go.Proofs.YtchjmkofdiejhaaDoor.OwnDcQ Go.Proofs.YtchjmkofdiejhaaDoor.OwnDcI Go.Proofs.YtchjmkofdiejhaaDoor.OwnDcK
open Go.Proofs.YtchjmkofdiejhaaDoor.OwnText (enc1 encL narrowB u16M encM)
set_option linter.unusedVariables false
set_option linter.unusedSimpArgs false
theorem front_get (s : ByteArray) (l : List Int) (h : front s l.length = l) (i : Nat) (hi : i < l.length) : bt s (i : Int) = l[i] := by
  have h1 : (front s l.length)[i]? = l[i]? := by rw [h]
  unfold front at h1
  rw [List.getElem?_map, List.getElem?_range hi, List.getElem?_eq_getElem hi] at h1
  simpa using h1
theorem front_take (s : ByteArray) (n : Nat) (h : n ≤ s.size) : front s n = (bytesOf s).take n := by
  unfold front bytesOf
  apply List.ext_getElem
  · have : s.data.size = s.size := rfl
    simp [this]; omega
  · intro i h1 h2
    simp at h1
    have hi : i < s.size := by omega
    have := bt_at s (i : Int) (by simpa using hi)
    simp only [List.getElem_map, List.getElem_range, ← this, List.getElem_take]
    simp [ByteArray.getElem_eq_getElem_data]
theorem bytesOf_drop (s : ByteArray) (n : Nat) : bytesOf (s.extract n s.size) = (bytesOf s).drop n := by
  unfold bytesOf
  rw [ByteArray.data_extract, Array.toList_extract]
  simp [List.map_drop, List.map_take]
  rw [List.take_of_length_le]
  have : s.data.size = s.size := rfl
  simp [this]
theorem bytesOf_size (s : ByteArray) : (bytesOf s).length = s.size := by
  unfold bytesOf
  rw [List.length_map]
  rfl
theorem one_enc (p : Int) (h0 : 0 ≤ p) (h1 : p ≤ 1114111) (s : ByteArray) (hs : (u8M p).length ≤ s.size) (h : front s (u8M p).length = u8M p) : oneM s = (p, ((u8M p).length : Int)) := by
  have key : ∀ n q, (u8M p).length = n → q = p → oneN s n q = (p, (n : Int)) := by
    rintro n q rfl rfl
    unfold oneN
    rw [if_neg (by omega), if_pos h.symm]
  have g := fun i hi => front_get s (u8M p) h i hi
  unfold oneM
  by_cases c1 : p < 128
  · have e : u8M p = [p] := by unfold u8M; exact if_pos c1
    simp only [e] at g key ⊢
    have b0 := g 0 (by simp)
    simp at b0
    rw [if_neg (by omega), if_neg (by omega), if_neg (by omega)]
    exact key 1 _ rfl (by omega)
  · by_cases c2 : p < 2048
    · have e : u8M p = [192 + p / 64, 128 + p % 64] := by unfold u8M; rw [if_neg c1, if_pos c2]
      simp only [e] at g key ⊢
      have b0 := g 0 (by simp)
      have b1 := g 1 (by simp)
      simp at b0 b1
      rw [if_neg (by omega), if_neg (by omega), if_pos (by omega)]
      exact key 2 _ rfl (by omega)
    · by_cases c3 : p < 65536
      · have e : u8M p = [224 + p / 4096, 128 + p / 64 % 64, 128 + p % 64] := by unfold u8M; rw [if_neg c1, if_neg c2, if_pos c3]
        simp only [e] at g key ⊢
        have b0 := g 0 (by simp)
        have b1 := g 1 (by simp)
        have b2 := g 2 (by simp)
        simp at b0 b1 b2
        rw [if_neg (by omega), if_pos (by omega)]
        exact key 3 _ rfl (by omega)
      · have e : u8M p = [240 + p / 262144, 128 + p / 4096 % 64, 128 + p / 64 % 64, 128 + p % 64] := by unfold u8M; rw [if_neg c1, if_neg c2, if_neg c3]
        simp only [e] at g key ⊢
        have b0 := g 0 (by simp)
        have b1 := g 1 (by simp)
        have b2 := g 2 (by simp)
        have b3 := g 3 (by simp)
        simp at b0 b1 b2 b3
        rw [if_pos (by omega)]
        exact key 4 _ rfl (by omega)
theorem s16_enc (p : Int) (h0 : 0 ≤ p) (h1 : p ≤ 1114111) (h2 : p < 55296 ∨ 57343 < p) (s : ByteArray) (hs : (u16M p).length ≤ s.size) (h : front s (u16M p).length = u16M p) : s16 s = (p, ((u16M p).length : Int)) := by
  have g := fun i hi => front_get s (u16M p) h i hi
  unfold s16 w0 w1
  by_cases c1 : p < 65536
  · have e : u16M p = [p % 256, p / 256] := by unfold u16M; exact if_pos c1
    simp only [e] at g hs ⊢
    have b0 := g 0 (by simp)
    have b1 := g 1 (by simp)
    simp at b0 b1 hs
    rw [if_neg (by omega), if_neg (by omega)]
    rw [b0, b1]
    simp; omega
  · have e : u16M p = [(55296 + (p - 65536) / 1024) % 256, (55296 + (p - 65536) / 1024) / 256, (56320 + (p - 65536) % 1024) % 256, (56320 + (p - 65536) % 1024) / 256] := by unfold u16M; exact if_neg c1
    simp only [e] at g hs ⊢
    have b0 := g 0 (by simp)
    have b1 := g 1 (by simp)
    have b2 := g 2 (by simp)
    have b3 := g 3 (by simp)
    simp at b0 b1 b2 b3 hs
    rw [if_neg (by omega), if_pos (by omega)]
    rw [b0, b1, b2, b3]
    simp; omega
/-- A point's bytes ahead: the step reads the point. -/
theorem sp_enc (code p : Int) (hc : 1 ≤ code ∧ code ≤ 3) (g : goodB p = true) (n : code = 3 → p < 256) (s : ByteArray) (hs : (enc1 code p).length ≤ s.size) (h : front s (enc1 code p).length = enc1 code p) : sp code s = (p, ((enc1 code p).length : Int)) := by
  have g := good_dec.1 g
  unfold enc1 at *
  unfold sp
  by_cases c1 : code = 1
  · simp only [if_pos c1] at *
    exact one_enc p g.1 g.2.1 s hs h
  · simp only [if_neg c1] at *
    by_cases c2 : code = 2
    · simp only [if_pos c2] at *
      exact s16_enc p g.1 g.2.1 g.2.2 s hs h
    · simp only [if_neg c2] at *
      have := front_get s _ h 0 (by simp)
      simp at this
      have := n (by omega)
      simp; omega
theorem oneN_back (s : ByteArray) (n : Nat) (q : Int) (h : (oneN s n q).2 ≠ 0) : (oneN s n q).2 = (n : Int) ∧ n ≤ s.size ∧ u8M (oneN s n q).1 = front s n := by
  unfold oneN at *
  by_cases c1 : s.size < n
  · rw [if_pos c1] at h; exact absurd rfl h
  · rw [if_neg c1] at h ⊢
    by_cases c2 : u8M q = front s n
    · rw [if_pos c2]; exact ⟨rfl, by omega, c2⟩
    · rw [if_neg c2] at h; exact absurd rfl h
theorem front_length (s : ByteArray) (n : Nat) : (front s n).length = n := by unfold front; simp
/-- What the step reads: its bytes are the point's. -/
theorem enc_sp (code : Int) (hc : 1 ≤ code ∧ code ≤ 3) (s : ByteArray) (h0 : 0 < s.size) (h : (sp code s).2 ≠ 0) (g : goodB (sp code s).1 = true) : ∃ m : Nat, (sp code s).2 = (m : Int) ∧ m ≤ s.size ∧ front s m = enc1 code (sp code s).1 ∧ (code = 3 → (sp code s).1 < 256) := by
  have g := good_dec.1 g
  unfold enc1
  unfold sp at *
  by_cases c1 : code = 1
  · simp only [if_pos c1] at *
    unfold oneM at *
    split at h
    · rename_i k; rw [if_pos k] at g ⊢
      obtain ⟨h1, h2, h3⟩ := oneN_back s _ _ h
      exact ⟨4, h1, h2, h3.symm, by omega⟩
    · rename_i k; rw [if_neg k] at g ⊢
      split at h
      · rename_i k; rw [if_pos k] at g ⊢
        obtain ⟨h1, h2, h3⟩ := oneN_back s _ _ h
        exact ⟨3, h1, h2, h3.symm, by omega⟩
      · rename_i k; rw [if_neg k] at g ⊢
        split at h
        · rename_i k; rw [if_pos k] at g ⊢
          obtain ⟨h1, h2, h3⟩ := oneN_back s _ _ h
          exact ⟨2, h1, h2, h3.symm, by omega⟩
        · rename_i k; rw [if_neg k] at g ⊢
          obtain ⟨h1, h2, h3⟩ := oneN_back s _ _ h
          exact ⟨1, h1, h2, h3.symm, by omega⟩
  · simp only [if_neg c1] at *
    have r0 := bt_range s 0
    have r1 := bt_range s 1
    have r2 := bt_range s 2
    have r3 := bt_range s 3
    by_cases c2 : code = 2
    · simp only [if_pos c2] at *
      unfold s16 at *
      by_cases d1 : s.size < 2
      · rw [if_pos d1] at h; exact absurd rfl h
      · rw [if_neg d1] at h g ⊢
        by_cases d2 : (55296 ≤ w0 s ∧ w0 s ≤ 56319) ∧ 3 < s.size ∧ (56320 ≤ w1 s ∧ w1 s ≤ 57343)
        · rw [if_pos d2] at h g ⊢
          refine ⟨4, rfl, by omega, ?_, by omega⟩
          have e : front s 4 = [bt s 0, bt s 1, bt s 2, bt s 3] := rfl
          rw [e]
          unfold w0 w1 at *
          simp only at g ⊢
          unfold u16M
          rw [if_neg (by omega)]
          simp only [List.cons.injEq, and_true]
          refine ⟨?_, ?_, ?_, ?_⟩ <;> omega
        · rw [if_neg d2] at h g ⊢
          refine ⟨2, rfl, by omega, ?_, by omega⟩
          have e : front s 2 = [bt s 0, bt s 1] := rfl
          rw [e]
          unfold w0 w1 at *
          simp only at g ⊢
          unfold u16M
          rw [if_pos (by omega)]
          simp only [List.cons.injEq, and_true]
          refine ⟨?_, ?_⟩ <;> omega
    · simp only [if_neg c2] at *
      refine ⟨1, rfl, by omega, ?_, by omega⟩
      have e : front s 1 = [bt s 0] := rfl
      rw [e]
      simp; omega
theorem enc1_pos (code p : Int) : 1 ≤ (enc1 code p).length := by
  unfold enc1 OwnText.u8M u16M
  repeat (first | split | simp)
/-- Points' bytes read on: the points. -/
theorem dec_enc (code : Int) (hc : 1 ≤ code ∧ code ≤ 3) : ∀ (l : List Int) (f : Nat) (s : ByteArray) (acc : List Int), bytesOf s = encL code l → l.all goodB = true → (code = 3 → narrowB l = true) → acc.length + l.length ≤ 300 → s.size < f → decI code f s acc = (acc ++ l, true)
  | [], f + 1, s, acc, h, _, _, _, _ => by
    unfold decI
    have : (bytesOf s).length = 0 := by rw [h]; rfl
    rw [bytesOf_size] at this
    rw [if_pos this, List.append_nil]
  | p :: l, f + 1, s, acc, h, hg, hn, hl, hf => by
    have hz := bytesOf_size s
    have ep := enc1_pos code p
    have e : encL code (p :: l) = enc1 code p ++ encL code l := by unfold encL; rw [List.flatMap_cons]
    rw [e] at h
    rw [h, List.length_append] at hz
    rw [List.all_cons, Bool.and_eq_true] at hg
    have hn1 : code = 3 → p < 256 := fun c => by
      have := hn c
      unfold narrowB at this
      rw [List.all_cons, Bool.and_eq_true, decide_eq_true_eq] at this
      exact this.1
    have hn2 : code = 3 → narrowB l = true := fun c => by
      have := hn c
      unfold narrowB at this ⊢
      rw [List.all_cons, Bool.and_eq_true] at this
      exact this.2
    have hsp := sp_enc code p hc hg.1 hn1 s (by omega) (by rw [front_take s _ (by omega), h, List.take_left'] ; rfl)
    have hlk := like_all code s (by omega)
    unfold Like at hlk
    rw [hsp, if_pos ⟨by simp only; omega, hg.1⟩] at hlk
    rw [List.length_cons] at hl
    unfold decI
    rw [if_neg (by omega), hlk, if_neg (by simp only; omega)]
    simp only [Int.toNat_natCast]
    rw [dec_enc code hc l f _ (acc ++ [p]) (by rw [bytesOf_drop, h, List.drop_left'] ; rfl) hg.2 hn2 (by rw [List.length_append]; simp; omega) (by rw [ByteArray.size_extract]; omega)]
    simp
/-- What is read on: its bytes are the text. -/
theorem enc_dec (code : Int) (hc : 1 ≤ code ∧ code ≤ 3) : ∀ (f : Nat) (s : ByteArray) (acc r : List Int), decI code f s acc = (r, true) → ∃ l, r = acc ++ l ∧ bytesOf s = encL code l ∧ (code = 3 → narrowB l = true)
  | 0, s, acc, r, h => by unfold decI at h; cases h
  | f + 1, s, acc, r, h => by
    unfold decI at h
    by_cases z : s.size = 0
    · rw [if_pos z] at h
      cases h
      refine ⟨[], (List.append_nil _).symm, ?_, fun _ => rfl⟩
      have := bytesOf_size s
      exact List.eq_nil_of_length_eq_zero (by omega)
    · rw [if_neg z] at h
      by_cases c : (im code s).2 = 0 ∨ acc.length = 300
      · rw [if_pos c] at h; cases h
      · rw [if_neg c] at h
        have hlk := like_all code s (by omega)
        unfold Like at hlk
        split at hlk
        · rename_i k
          obtain ⟨m, h1, h2, h3, h4⟩ := enc_sp code hc s (by omega) k.1 k.2
          rw [hlk, h1] at h
          simp only [Int.toNat_natCast] at h
          obtain ⟨l, e1, e2, e3⟩ := enc_dec code hc f _ _ _ h
          refine ⟨(sp code s).1 :: l, by rw [e1]; simp, ?_, ?_⟩
          · have : encL code ((sp code s).1 :: l) = enc1 code (sp code s).1 ++ encL code l := by unfold encL; rw [List.flatMap_cons]
            rw [this, ← h3, ← e2, bytesOf_drop, front_take s m h2, List.take_append_drop]
          · intro c3
            have := e3 c3
            unfold narrowB at this ⊢
            rw [List.all_cons, Bool.and_eq_true, decide_eq_true_eq]
            exact ⟨h4 c3, this⟩
        · rw [hlk] at c
          exact absurd (.inl rfl) c
theorem strOfNums_bytesOf (s : ByteArray) : strOfNums (bytesOf s) = s := by
  unfold strOfNums bytesOf
  rw [List.map_map]
  have : ((fun x : Int => UInt8.ofNat x.toNat) ∘ fun b : UInt8 => (b.toNat : Int)) = id := by
    funext b
    simp
  apply ByteArray.ext
  simp [this]
theorem enc1_bytes (code p : Int) (g : goodB p = true) : ∀ x ∈ enc1 code p, 0 ≤ x ∧ x < 256 := by
  have g := good_dec.1 g
  unfold enc1
  split
  · exact u8M_bytes p g.1 (by omega)
  · split
    · unfold u16M
      split
      · intro x hx; simp at hx; omega
      · intro x hx; simp at hx; omega
    · intro x hx; simp at hx; omega
theorem encL_bytes (code : Int) (l : List Int) (g : l.all goodB = true) : bytesOf (strOfNums (encL code l)) = encL code l := by
  refine bytesOf_strOfNums _ (fun x hx => ?_)
  unfold encL at hx
  obtain ⟨p, h1, h2⟩ := List.mem_flatMap.1 hx
  exact enc1_bytes code p (List.all_eq_true.1 g p h1) x h2
/-- Encoded and decoded. -/
theorem rt1 (code : Int) (hc : 1 ≤ code ∧ code ≤ 3) (l : List Int) (g : l.all goodB = true) (hl : l.length ≤ 300) (n : code = 3 → narrowB l = true) : decM code (strOfNums (encL code l)) = (l, true) := by
  unfold decM
  rw [dec_enc code hc l _ (strOfNums (encL code l)) [] (encL_bytes code l g) g n (by simpa using hl) (by omega)]
  rfl
/-- Decoded and encoded. -/
theorem rt2 (code : Int) (hc : 1 ≤ code ∧ code ≤ 3) (s : ByteArray) (h : (decM code s).2 = true) : strOfNums (encL code (decM code s).1) = s ∧ (code = 3 → narrowB (decM code s).1 = true) := by
  obtain ⟨l, h1, h2, h3⟩ := enc_dec code hc (s.size + 1) s [] (decM code s).1 (by rw [← h]; rfl)
  rw [List.nil_append] at h1
  rw [h1]
  exact ⟨by rw [← h2, strOfNums_bytesOf], h3⟩
end Go.Proofs.YtchjmkofdiejhaaDoor.OwnRt
namespace Go.Proofs.YtchjmkofdiejhaaDoor.OwnCu
open Go Go.RowKit Go.Proofs.YtchjmkofdiejhaaDoorW.PrintWords Go.Proofs.YtchjmkofdiejhaaDoorW.PrintLast Go.Proofs.YtchjmkofdiejhaaDoorW.PrintMore Go.Proofs.YtchjmkofdiejhaaDoor.OwnIs
set_option linter.unusedVariables false
set_option linter.unusedSimpArgs false
/-- The cursor's box: it stands at M at most. -/
def Cu (w0 W : World) (g : Nat) (M : Nat) : Prop := ∃ (A : Option Addr) (c : Nat) (code : List Int) (p s : Int), W.heap[g]? = some (.cells #[.slice A code.length c, .int .i64 p, .int .u64 s] 44 (0, 0)) ∧ w0.heap.size ≤ g ∧ Kd.C (Kd.int .u8) w0 A code.length code ∧ code.length ≤ 1048576 ∧ (∀ x ∈ code, 0 ≤ x ∧ x < 256) ∧ 0 ≤ p ∧ p ≤ M
theorem Cu.ge {w0 W : World} {g M : Nat} (h : Cu w0 W g M) : w0.heap.size ≤ g := by obtain ⟨_, _, _, _, _, _, h, _⟩ := h; exact h
theorem Cu.lt {w0 W : World} {g M : Nat} (h : Cu w0 W g M) : g < W.heap.size := by obtain ⟨_, _, _, _, _, h, _⟩ := h; exact blk_lt h
theorem Cu.up {w0 W : World} {g M M' : Nat} (h : Cu w0 W g M) (hM : M ≤ M') : Cu w0 W g M' := by obtain ⟨A, c, code, p, s, h1, h2, h3, h4, h5, h6, h7⟩ := h; exact ⟨A, c, code, p, s, h1, h2, h3, h4, h5, h6, by omega⟩
theorem Cu.blk {w0 W W1 : World} {g M : Nat} (h : Cu w0 W g M) (e : W1.heap[g]? = W.heap[g]?) : Cu w0 W1 g M := by obtain ⟨A, c, code, p, s, h1, r⟩ := h; exact ⟨A, c, code, p, s, e.trans h1, r⟩
theorem Cu.below {w0 W W1 : World} {g M : Nat} (h : Cu w0 W g M) (hb : Below W.heap.size W W1) : Cu w0 W1 g M := h.blk (hb.block g h.lt)
theorem Cu.grown {w0 W W1 : World} {g M : Nat} {row : Option Nat} (h : Cu w0 W g M) (hg : W.grownBy W1 row) (hr : some g ≠ row) : Cu w0 W1 g M := h.blk (hg.block g h.lt hr)
/-- What a method of the cursor leaves. -/
structure Cp (w0 W w' : World) (g M : Nat) : Prop where
  cu : Cu w0 w' g M
  bel : Below w0.heap.size w0 w'
  keep : KeepBut W w' g none
theorem Cp.below {w0 W W1 w' : World} {g M : Nat} (h : Cp w0 W W1 g M) (hb : Below W1.heap.size W1 w') : Cp w0 W w' g M := ⟨h.cu.below hb, below_step h.bel hb, h.keep.trans (KeepBut.of_below hb g none) (.inl rfl)⟩
theorem Cp.trans {w0 W W1 w' : World} {g M M' : Nat} (h : Cp w0 W W1 g M) (k : Cp w0 W1 w' g M') : Cp w0 W w' g M' := ⟨k.cu, k.bel, h.keep.trans k.keep (.inl rfl)⟩
theorem Cp.start {w0 W : World} {g M : Nat} (h : Cu w0 W g M) (hB : Below w0.heap.size w0 W) : Cp w0 W W g M := ⟨h, hB, KeepBut.refl _ _ _⟩
theorem and255 (x : Int) : 0 ≤ bits .and .u64 x 255 ∧ bits .and .u64 x 255 ≤ 255 := by
  have h : bits .and .u64 x 255 = x % 256 := Pl.and_mask .u64 8 (by decide) x
  omega
set_option maxRecDepth 100000 in
set_option maxHeartbeats 8000000 in
theorem next_s (g M : Nat) (hM : M ≤ 1000000100) (w0 W : World) (hI : Cu w0 W g M) (hB : Below w0.heap.size w0 W) : Calls Tryd.prog 45 #[.pointer (some ⟨g, 0, none⟩)] W fun e w' => ∃ r : Int, e = .returned (.int .i64 r) ∧ (0 ≤ r ∧ r ≤ 255) ∧ Cp w0 W w' g (M + 1) := by
  have HI := Aside0.mk hI
  have HB := Aside0.mk hB
  obtain ⟨A, c, code, p, s, h1, h2, h3, h4, h5, h6, h7⟩ := hI
  have HG := Aside0.mk h1
  have hc0 : W.cell? ⟨g, 0, none⟩ = some (.slice A code.length c) := (blk_cell h1 0).trans rfl
  have hc1 : W.cell? ⟨g, 1, none⟩ = some (.int .i64 p) := (blk_cell h1 1).trans rfl
  have hc2 : W.cell? ⟨g, 2, none⟩ = some (.int .u64 s) := (blk_cell h1 2).trans rfl
  have hf1 := blk_frozen h1 1
  have hf2 := blk_frozen h1 2
  have hgl := blk_lt h1
  have ew : IntKind.i64.wrap (p + 1) = p + 1 := by rw [IntKind.wrap_i64]; omega
  have H2 := Aside0.mk h2
  have fin : ∀ (n m : Nat) (s' : Int), Cp w0 W ((((W.drewN n).setCell ⟨g, 1, none⟩ (.int .i64 (p + 1))).setCell ⟨g, 2, none⟩ (.int .u64 s')).drewN m) g (M + 1) := by
    intro n m s'
    have e1 := heap_setCell_same (W.drewN n) g 1 _ _ (.int .i64 (p + 1)) (show (W.drewN n).heap[g]? = _ from h1)
    have e2 := heap_setCell_same _ g 2 _ _ (.int .u64 s') e1
    exact ⟨⟨A, c, code, p + 1, s', e2, h2, h3, h4, h5, by omega, by omega⟩, pw_below_drewN (below_set (below_set (pw_below_drewN hB n) h2) h2) m, keep_drewN (KeepBut.set_ (KeepBut.set_ (keep_drewN (KeepBut.refl _ _ _) n) _ _) _ _) m⟩
  have HF := Aside0.mk fin
  by_cases c1 : p < code.length
  · have d1 : decide (p < (code.length : Int)) = true := decide_eq_true c1
    have d2 : decide (p + 1 ≤ (code.length : Int)) = true := decide_eq_true (by omega)
    obtain ⟨pn, rfl⟩ : ∃ n : Nat, p = n := ⟨p.toNat, by omega⟩
    obtain ⟨ad, e, hy0⟩ := (Kd.reads_of_C (d := (0 : Int)) h3).at_ pn (by omega) c1
    subst e
    replace hy0 := (hB.cell (World.block_lt_of_cell? w0 _ hy0)).trans hy0
    rw [Pl.rdOf_at 0 code pn (by omega)] at hy0
    simp only [Int.toNat_natCast] at hy0
    have hx := h5 code[pn] (List.getElem_mem (by omega))
    have HX := Aside0.mk hx
    have p1 : (0 : Int) ≤ (pn : Int) := by omega
    have p2 : (pn : Int) < (code.length : Int) := c1
    have ew2 : IntKind.i64.wrap code[pn] = code[pn] := by rw [IntKind.wrap_i64]; omega
    generalize code[pn] = x at *
    clear hB h1 h2 h3 h4 h5 h6 h7 hx c1 fin
    go_enter Tryd.func45, Tryd.ntmps45
    go_wp2
    repeat (go_quiet (fail); try go_wp2)
    go_ret
    exact ⟨_, rfl, ⟨HX.out.1, by have := HX.out.2; omega⟩, HF.out _ _ _⟩
  · have d1 : decide (p < (code.length : Int)) = false := decide_eq_false c1
    have d2 : decide (p + 1 ≤ (code.length : Int)) = false := decide_eq_false (by omega)
    clear hB h1 h2 h3 h4 h5 h6 h7 c1 fin
    go_enter Tryd.func45, Tryd.ntmps45
    go_wp2
    repeat (go_quiet (fail); try go_wp2)
    go_ret
    refine ⟨_, rfl, ?_, HF.out _ _ _⟩
    have := and255 (IntKind.u64.wrap (IntKind.u64.wrap (IntKind.u64.wrap (s * 6364136223846793005)) + 1442695040888963407) / 1099511627776)
    rw [Pl.w64 (by omega) (by omega)]
    exact this
/-! ### pick and what leans on it -/
theorem lit_C (l : List Int) (W : World) (hl : l.length ≤ 1000 := by decide) : Kd.C (Kd.int .i64) (W.alloc (.cells (l.map (Value.int .i64)).toArray 3)) (some ⟨W.heap.size, 0, none⟩) l.length l := by
  refine Kd.C_of_reads (d := (0 : Int)) ⟨rfl, by omega, fun _ => ⟨_, rfl, fun j hj => ?_⟩⟩
  have h := World.rowIs_alloc W (l.map (Value.int .i64)).toArray 3 (fun i => .int .i64 (l.getD i 0)) (fun i hi => by
    have hi' : i < l.length := by simpa using hi
    simp [hi', List.getD_eq_getElem?_getD])
  have := h.cell (i := j) (by simpa using hj)
  have e : (Addr.mk W.heap.size 0 none).add j = ⟨W.heap.size, j, none⟩ := by simp [Addr.add]; omega
  rw [e, this]
set_option maxRecDepth 100000 in
set_option maxHeartbeats 8000000 in
theorem pick_s (g M : Nat) (hM : M ≤ 1000000) (w0 W : World) (hC : Cp w0 W W g M) (n : Int) (h1 : 1 ≤ n) (h2 : n ≤ 1000000000) : Calls Tryd.prog 30 #[.pointer (some ⟨g, 0, none⟩), .int .i64 n] W fun e w' => ∃ r : Int, e = .returned (.int .i64 r) ∧ (0 ≤ r ∧ r < n) ∧ Cp w0 W w' g (M + 2) := by
  have HC := Aside0.mk hC
  by_cases c1 : n ≤ 1
  · have d1 : decide (n ≤ 1) = true := decide_eq_true c1
    clear hC
    go_enter Tryd.func30, Tryd.ntmps30
    go_wp2
    go_ret
    exact ⟨0, rfl, by omega, ⟨HC.out.cu.up (by omega), HC.out.bel, HC.out.keep⟩⟩
  · have d1 : decide (n ≤ 1) = false := decide_eq_false c1
    have cn := next_s g M (by omega) w0 W hC.cu hC.bel
    have hn0 : (n == 0) = false := beq_eq_false_iff_ne.2 (by omega)
    have hn1 : ¬ n = 0 := by omega
    have HN := Aside0.mk (show 1 < n by omega)
    by_cases c2 : 200 < n
    · have d2 : decide (200 < n) = true := decide_eq_true c2
      have cn2 := fun w1 (h : Cp w0 W w1 g (M + 1)) => next_s g (M + 1) (by omega) w0 w1 h.cu h.bel
      clear hC c1 c2
      go_enter Tryd.func30, Tryd.ntmps30
      go_wp2_with fail
      refine cn.mono ?_
      rintro e w1 ⟨x, rfl, hx, hc1⟩
      have HC1 := Aside0.mk hc1
      have HX := Aside0.mk hx
      have e1 : IntKind.i64.wrap (x * 256) = x * 256 := by rw [IntKind.wrap_i64]; omega
      clear hc1 hx
      go_wp2_with fail
      refine (cn2 w1 HC1.out).mono ?_
      rintro e w2 ⟨y, rfl, hy, hc2⟩
      have HC2 := Aside0.mk (HC1.out.trans hc2)
      have e2 : IntKind.i64.wrap (x * 256 + y) = x * 256 + y := by rw [IntKind.wrap_i64]; have := HX.out; omega
      have b1 := Int.tmod_nonneg n (show 0 ≤ x * 256 + y by have := HX.out; omega)
      have b2 := Int.tmod_lt_of_pos (x * 256 + y) (show 0 < n by have := HN.out; omega)
      have B := Aside0.mk (⟨b1, b2⟩ : 0 ≤ (x * 256 + y).tmod n ∧ (x * 256 + y).tmod n < n)
      have e3 : IntKind.i64.wrap ((x * 256 + y).tmod n) = (x * 256 + y).tmod n := by rw [IntKind.wrap_i64]; have := B.out; have := h2; omega
      clear hc2 hy b1 b2
      go_wp2
      go_ret
      exact ⟨_, rfl, B.out, HC2.out⟩
    · have d2 : decide (200 < n) = false := decide_eq_false c2
      clear hC c1 c2
      go_enter Tryd.func30, Tryd.ntmps30
      go_wp2_with fail
      refine cn.mono ?_
      rintro e w1 ⟨x, rfl, hx, hc1⟩
      have HC2 := Aside0.mk hc1
      have b1 := Int.tmod_nonneg n hx.1
      have b2 := Int.tmod_lt_of_pos x (show 0 < n by have := HN.out; omega)
      have B := Aside0.mk (⟨b1, b2⟩ : 0 ≤ x.tmod n ∧ x.tmod n < n)
      have e3 : IntKind.i64.wrap (x.tmod n) = x.tmod n := by rw [IntKind.wrap_i64]; have := B.out; have := h2; omega
      clear hc1 hx b1 b2
      go_wp2
      go_ret
      exact ⟨_, rfl, B.out, ⟨HC2.out.cu.up (by omega), HC2.out.bel, HC2.out.keep⟩⟩
set_option maxRecDepth 100000 in
set_option maxHeartbeats 8000000 in
theorem one_s (g M : Nat) (hM : M ≤ 1000000) (w0 W : World) (hC : Cp w0 W W g M) (n : Int) (h1 : 1 ≤ n) (h2 : n ≤ 1000000000) : Calls Tryd.prog 31 #[.pointer (some ⟨g, 0, none⟩), .int .i64 n] W fun e w' => ∃ r : Bool, e = .returned (.bool r) ∧ Cp w0 W w' g (M + 2) := by
  have cp := pick_s g M hM w0 W hC n h1 h2
  clear hC
  go_enter Tryd.func31, Tryd.ntmps31
  go_wp2_with fail
  refine cp.mono ?_
  rintro e w1 ⟨x, rfl, hx, hc⟩
  go_wp2
  go_ret
  exact ⟨_, rfl, hc⟩
set_option maxRecDepth 100000 in
set_option maxHeartbeats 8000000 in
theorem among_s (g M : Nat) (hM : M ≤ 1000000) (w0 W : World) (hC : Cp w0 W W g M) (A : Option Addr) (c : Nat) (l : List Int) (hr : Kd.C (Kd.int .i64) W A l.length l) (hl : 1 ≤ l.length) (hl2 : l.length ≤ 100) (hf : ∀ ad, A = some ad → 0 < l.length → ad.block ≠ g) : Calls Tryd.prog 34 #[.pointer (some ⟨g, 0, none⟩), .slice A l.length c] W fun e w' => ∃ r : Int, e = .returned (.int .i64 r) ∧ Cp w0 W w' g (M + 2) := by
  have cp := pick_s g M hM w0 W hC (l.length : Int) (by omega) (by omega)
  have HR := Aside0.mk hr
  have HF := Aside0.mk hf
  clear hC hr hf
  go_enter Tryd.func34, Tryd.ntmps34
  go_wp2_with fail
  refine cp.mono ?_
  rintro e w1 ⟨x, rfl, hx, hc⟩
  obtain ⟨ad, e, hy⟩ := (Kd.reads_of_C (d := (0 : Int)) (Kd.C_keep 0 HR.out hc.keep HF.out)).at_ x hx.1 hx.2
  subst e
  have p1 := hx.1
  have p2 := hx.2
  go_wp2
  go_ret
  exact ⟨_, rfl, hc⟩
set_option maxRecDepth 100000 in
set_option maxHeartbeats 8000000 in
theorem code3_s (g M : Nat) (hM : M ≤ 900000) (w0 W : World) (hC : Cp w0 W W g M) : Calls Tryd.prog 19 #[.pointer (some ⟨g, 0, none⟩)] W fun e w' => ∃ r : Int, e = .returned (.int .i64 r) ∧ Cp w0 W w' g (M + 4) := by
  have co := one_s g M (by omega) w0 W hC 30 (by omega) (by omega)
  have cp := fun n w1 (h : Cp w0 W w1 g (M + 2)) => pick_s g (M + 2) (by omega) w0 w1 (Cp.start h.cu h.bel) n
  clear hC
  go_enter Tryd.func19, Tryd.ntmps19
  go_wp2_with fail
  refine co.mono ?_
  rintro e w1 ⟨b, rfl, hc⟩
  cases b with
  | true =>
    go_wp2_with fail
    refine (cp 6 w1 hc (by omega) (by omega)).mono ?_
    rintro e w2 ⟨x, rfl, hx, hc2⟩
    go_wp2
    go_ret
    exact ⟨_, rfl, hc.trans hc2⟩
  | false =>
    go_wp2_with fail
    refine (cp 3 w1 hc (by omega) (by omega)).mono ?_
    rintro e w2 ⟨x, rfl, hx, hc2⟩
    go_wp2
    go_ret
    exact ⟨_, rfl, hc.trans hc2⟩
set_option maxRecDepth 100000 in
set_option maxHeartbeats 8000000 in
theorem point_s (g M : Nat) (hM : M ≤ 900000) (w0 W : World) (hC : Cp w0 W W g M) : Calls Tryd.prog 32 #[.pointer (some ⟨g, 0, none⟩)] W fun e w' => ∃ r : Int, e = .returned (.int .i64 r) ∧ Cp w0 W w' g (M + 4) := by
  have co := pick_s g M (by omega) w0 W hC 5 (by omega) (by omega)
  have cp := fun n w1 (h : Cp w0 W w1 g (M + 2)) => pick_s g (M + 2) (by omega) w0 w1 (Cp.start h.cu h.bel) n
  have ca := fun w1 (h : Cu w0 w1 g (M + 2)) (hb : Below w0.heap.size w0 w1) => among_s g (M + 2) (by omega) w0 w1 (Cp.start h hb)
  clear hC
  go_enter Tryd.func32, Tryd.ntmps32
  go_wp2_with fail
  refine co.mono ?_
  rintro e w1 ⟨x, rfl, hx, hc⟩
  by_cases x0 : x = 0
  · subst x0
    go_wp2_with fail
    have hb := Cp.below hc (below_alloc (Below.refl w1.heap.size w1) (.cells #[.int .i64 0, .int .i64 127, .int .i64 128, .int .i64 2047, .int .i64 2048, .int .i64 65535, .int .i64 65536, .int .i64 1114111, .int .i64 55295, .int .i64 57344] 3))
    refine (ca _ hb.cu hb.bel (some ⟨w1.heap.size, 0, none⟩) 10 [0, 127, 128, 2047, 2048, 65535, 65536, 1114111, 55295, 57344] (lit_C [0, 127, 128, 2047, 2048, 65535, 65536, 1114111, 55295, 57344] w1) (by decide) (by decide) (fun ad h _ => by cases h; have := hc.cu.lt; simp only; omega)).mono ?_
    rintro e w2 ⟨x, rfl, hc2⟩
    go_wp2
    go_ret
    exact ⟨_, rfl, hb.trans hc2⟩
  · have y0 : (x == 0) = false := beq_eq_false_iff_ne.2 x0
    by_cases x1 : x = 1
    · subst x1
      go_wp2_with fail
      refine (cp 128 w1 hc (by omega) (by omega)).mono ?_
      rintro e w2 ⟨x, rfl, hx, hc2⟩
      go_wp2
      go_ret
      exact ⟨_, rfl, hc.trans hc2⟩
    · have y1 : (x == 1) = false := beq_eq_false_iff_ne.2 x1
      by_cases x2 : x = 2
      · subst x2
        go_wp2_with fail
        refine (cp 1114112 w1 hc (by omega) (by omega)).mono ?_
        rintro e w2 ⟨x, rfl, hx, hc2⟩
        go_wp2
        go_ret
        exact ⟨_, rfl, hc.trans hc2⟩
      · have y2 : (x == 2) = false := beq_eq_false_iff_ne.2 x2
        go_wp2_with fail
        refine (cp 26 w1 hc (by omega) (by omega)).mono ?_
        rintro e w2 ⟨x, rfl, hx, hc2⟩
        go_wp2
        go_ret
        exact ⟨_, rfl, hc.trans hc2⟩
end Go.Proofs.YtchjmkofdiejhaaDoor.OwnCu
namespace Go.Proofs.YtchjmkofdiejhaaDoor.OwnCuP
open Go Go.RowKit Go.Proofs.YtchjmkofdiejhaaDoorW.PrintWords Go.Proofs.YtchjmkofdiejhaaDoorW.PrintLast Go.Proofs.YtchjmkofdiejhaaDoorW.PrintMore Go.Proofs.YtchjmkofdiejhaaDoor.OwnIs Go.Proofs.YtchjmkofdiejhaaDoor.OwnCu
set_option linter.unusedVariables false
set_option linter.unusedSimpArgs false
theorem l1In_c (a b c : Int) (w : World) : Calls Tryd.prog 33 #[.int .i64 a, .int .i64 b, .int .i64 c] w fun e w' => ∃ d : Bool, e = .returned (.bool d) ∧ Below w.heap.size w w' := by
  refine (Pl2Code.spec_l1In.calls a b c (decide (b ≤ a ∧ a ≤ c)) w ?_).mono fun e w' h => ⟨_, h.1, h.2.below⟩
  unfold Pl2Code.spec_l1In.f
  by_cases h : b ≤ a <;> simp [h]
section
variable {ops : Array Oper} {rest : List Oper} {o : Oper} {a : Act} {Q : Exit → Act → World → Prop}
theorem app_int {B : Nat} {W : World} {v : Value} {xs : List Int} (HO : Kd.R dI 3 W B (fun k => B ≤ k) v xs) (hB : B ≤ W.heap.size) (y : Int) (hl : xs.length ≤ 1048576) (hgd : o.guard = none) (s x : Operand) (ho : o.op = .call { callee := .builtin .append, args := #[s, x], argTypes := #[23, 23] })
    (hs : a.eval s = v) (b : Nat) (hx : a.eval x = .slice (some ⟨b, 0, none⟩) 1 1) (hb : b = W.heap.size)
    (K : ∀ v1 w1, Kd.R dI 3 w1 B (fun k => B ≤ k) v1 (xs ++ [y]) → W.grownBy w1 v.ownBlock → wpList Tryd.prog ops Q rest (a.put o.dst v1) w1) : wpList Tryd.prog ops Q (o :: rest) a (W.alloc (.cells #[.int .i64 y] 3)) := by
  subst hb
  exact Kd.R_append dI (w0 := W) B hgd s x 23 3 (.int .i64 0) 8 ho Tryd.underlying23 info_int rfl (by decide) (by decide) v xs y [.int .i64 y] (fun k => B ≤ k) (fun _ => False) hs hx rfl (fun _ hk => hk.elim) (fun k hk => Nat.le_trans hB hk) HO ⟨rfl, rfl, rfl, Nat.le_refl _, fun _ _ => rfl⟩ hB (by omega) (fun v1 w1 h1 h2 h3 _ => K v1 w1 h1 h3)
end
theorem Cp.grown {w0 W W1 w' : World} {g M : Nat} {v : Value} {l : List Int} (h : Cp w0 W W1 g M) (hg : W1.grownBy w' v.ownBlock) (hR : Kd.R dI 3 W1 W.heap.size (fun k => W.heap.size ≤ k) v l) (hlt : g < W.heap.size) (h0 : w0.heap.size ≤ W.heap.size) : Cp w0 W w' g M := by
  have hb := Kd.R_base hR
  refine ⟨h.cu.grown hg (fun e => by have := hb g e.symm; omega), h.bel.grown hg h.bel.size (fun k hk => Nat.le_trans h0 (hb k hk)), ?_⟩
  have hk := KeepBut.of_grown hg g
  cases e : v.ownBlock with
  | none => rw [e] at hk; exact h.keep.trans hk (.inl rfl)
  | some k => rw [e] at hk; exact h.keep.trans hk (.inr ⟨k, rfl, hb k e⟩)
theorem R_kp {W W1 w' : World} {g : Nat} {v : Value} {l : List Int} (hR : Kd.R dI 3 W1 W.heap.size (fun k => W.heap.size ≤ k) v l) (hk : KeepBut W1 w' g none) (hlt : g < W.heap.size) : Kd.R dI 3 w' W.heap.size (fun k => W.heap.size ≤ k) v l := Kd.R_keep hR hk (fun k h e => by omega)
set_option maxRecDepth 100000 in
set_option maxHeartbeats 20000000 in
theorem points_s (g M : Nat) (hM : M ≤ 500000) (w0 W : World) (hC : Cp w0 W W g M) : Calls Tryd.prog 18 #[.pointer (some ⟨g, 0, none⟩)] W fun e w' => ∃ (A : Option Addr) (c : Nat) (l : List Int), e = .returned (.slice A l.length c) ∧ l.length ≤ 400 ∧ Kd.R dI 3 w' W.heap.size (fun k => W.heap.size ≤ k) (.slice A l.length c) l ∧ Cp w0 W w' g (M + 4000) := by
  have HM := Aside0.mk hM
  have HLT := Aside0.mk hC.cu.lt
  have H0 := Aside0.mk hC.bel.size
  have cp1 := pick_s g M (by omega) w0 W hC 9 (by omega) (by omega)
  clear hC hM
  go_enter Tryd.func18, Tryd.ntmps18
  go_wp2_with fail
  refine cp1.mono ?_
  rintro e w1 ⟨n1, rfl, hn1, hc1⟩
  have HN1 := Aside0.mk hn1
  clear cp1 hn1
  go_wp2_with fail
  refine (one_s g (M + 2) (by have := HM.out; omega) w0 w1 (Cp.start hc1.cu hc1.bel) 30 (by omega) (by omega)).mono ?_
  rintro e w2 ⟨b, rfl, hc2⟩
  have HC2 := Aside0.mk (hc1.trans hc2)
  clear hc1 hc2
  go_upto_if 10 with fail
  go_cut [4] (fun v4 wx => ∃ n : Nat, v4 = .int .i64 n ∧ Aside0 (n ≤ 301) ∧ Aside0 (Cp w0 W wx g (M + 6)))
  case first =>
    cases b with
    | true =>
      go_wp2_with fail
      refine (pick_s g (M + 2 + 2) (by have := HM.out; omega) w0 w2 (Cp.start HC2.out.cu HC2.out.bel) 2 (by omega) (by omega)).mono ?_
      rintro e w3 ⟨x, rfl, hx, hc3⟩
      have HX := Aside0.mk hx
      have ew : IntKind.i64.wrap (300 + x) = 300 + x := by rw [IntKind.wrap_i64]; omega
      clear hx
      go_wp2
      go_meet
      case rel => exact ⟨(300 + x).toNat, by rw [show (((300 + x).toNat : Nat) : Int) = 300 + x from by have := HX.out; omega], ⟨by have := HX.out; omega⟩, ⟨HC2.out.trans hc3⟩⟩
    | false =>
      go_wp2
      go_meet
      case rel => exact ⟨n1.toNat, by rw [show ((n1.toNat : Nat) : Int) = n1 from by have := HN1.out; omega], ⟨by have := HN1.out; omega⟩, ⟨HC2.out.cu.up (by omega), HC2.out.bel, HC2.out.keep⟩⟩
  case rest =>
    clear HN1 HC2
    obtain ⟨n, rfl, HN, HC3⟩ := hcut
    go_wp2_with fail
    refine (one_s g (M + 6) (by have := HM.out; omega) w0 wc (Cp.start HC3.out.cu HC3.out.bel) 3 (by omega) (by omega)).mono ?_
    rintro e w4 ⟨latin, rfl, hc4⟩
    have HC4 := Aside0.mk (HC3.out.trans hc4)
    clear hc4 HC3
    go_wp2
    go_loopg [3, 4] n (fun kq v3 v4 w' => ∃ (j : Nat) (l : List Int), j + kq = n ∧ v4 = .int .i64 kq ∧ Aside0 (l.length = j) ∧ Aside0 (Kd.R dI 3 w' W.heap.size (fun k => W.heap.size ≤ k) v3 l) ∧ Aside0 (Cp w0 W w' g (M + 8 + 6 * j)))
    case atStart => exact ⟨0, [], by omega, rfl, ⟨rfl⟩, ⟨Kd.R_nil _ _ _ _ _⟩, HC4⟩
    case round =>
      clear HC4
      obtain ⟨j, l, hj, rfl, HL, HR, HCj⟩ := hrel
      obtain ⟨A, c, rfl⟩ := Kd.R_slice HR.out
      cases gk with
      | zero =>
        have hd : decide ((0 : Int) < ((0 : Nat) : Int)) = false := decide_eq_false (by omega)
        go_wp2_with fail
        refine (one_s g (M + 8 + 6 * j) (by have := HM.out; have := HN.out; omega) w0 wr (Cp.start HCj.out.cu HCj.out.bel) 30 (by omega) (by omega)).mono ?_
        rintro e w5 ⟨b, rfl, hc5⟩
        have HC5 := Aside0.mk (HCj.out.trans hc5)
        have HR5 := Aside0.mk (R_kp HR.out hc5.keep HLT.out)
        clear hc5 HCj HR
        cases b with
        | false =>
          go_wp2
          go_ret
          exact ⟨_, _, l, rfl, by have := HL.out; have := HN.out; omega, HR5.out, ⟨HC5.out.cu.up (by have := HN.out; omega), HC5.out.bel, HC5.out.keep⟩⟩
        | true =>
          go_wp2_with fail
          have hb := Cp.below HC5.out (below_alloc (Below.refl w5.heap.size w5) (.cells #[.int .i64 (-1), .int .i64 55296, .int .i64 57343, .int .i64 1114112] 3))
          have hR6 := Kd.R_alloc HR5.out (.cells #[.int .i64 (-1), .int .i64 55296, .int .i64 57343, .int .i64 1114112] 3)
          refine (among_s g _ (by have := HM.out; have := HN.out; omega) w0 _ (Cp.start hb.cu hb.bel) (some ⟨w5.heap.size, 0, none⟩) 4 [-1, 55296, 57343, 1114112] (lit_C [-1, 55296, 57343, 1114112] w5) (by decide) (by decide) (fun ad h _ => by cases h; have := HC5.out.cu.lt; simp only; omega)).mono ?_
          rintro e w6 ⟨x, rfl, hc6⟩
          have HC6 := Aside0.mk (hb.trans hc6)
          have HR6 := Aside0.mk (R_kp hR6 hc6.keep HLT.out)
          clear hb hR6 hc6
          have hsz := HC6.out.keep.1
          go_wp2_with (at_builtin; refine app_int HR6.out hsz x (by have := HL.out; have := HN.out; omega) rfl _ _ rfl rfl _ rfl (by simp) ?_; intro v1 u1 R1 G1; obtain ⟨A1, d1, rfl⟩ := Kd.R_slice R1; have HR1 := Aside0.mk R1; have HG1 := Aside0.mk G1; clear R1 G1)
          go_ret
          have hc := Cp.grown HC6.out HG1.out HR6.out HLT.out H0.out
          exact ⟨_, _, l ++ [x], by first | rfl | simp, by rw [List.length_append]; have := HL.out; have := HN.out; simp; omega, HR1.out, ⟨hc.cu.up (by have := HN.out; omega), hc.bel, hc.keep⟩⟩
      | succ k1 =>
        have hd : decide ((0 : Int) < ((k1 + 1 : Nat) : Int)) = true := decide_eq_true (by omega)
        have ew : IntKind.i64.wrap (((k1 + 1 : Nat) : Int) - 1) = (k1 : Int) := by rw [IntKind.wrap_i64]; have := HN.out; omega
        go_wp2_with fail
        refine (point_s g (M + 8 + 6 * j) (by have := HM.out; have := HN.out; omega) w0 wr (Cp.start HCj.out.cu HCj.out.bel)).mono ?_
        rintro e w5 ⟨p, rfl, hc5⟩
        have HC5 := Aside0.mk (HCj.out.trans hc5)
        have HR5 := Aside0.mk (R_kp HR.out hc5.keep HLT.out)
        clear hc5 HCj HR
        go_upto_if 22 with fail
        go_cut [6] (fun v6 wx => ∃ p : Int, v6 = .int .i64 p ∧ Aside0 (Kd.R dI 3 wx W.heap.size (fun k => W.heap.size ≤ k) (.slice A l.length c) l) ∧ Aside0 (Cp w0 W wx g (M + 8 + 6 * j + 4)))
        case first =>
          cases latin with
          | true =>
            go_wp2
            go_meet
            case rel => exact ⟨_, rfl, HR5, HC5⟩
          | false =>
            go_wp2
            go_meet
            case rel => exact ⟨_, rfl, HR5, HC5⟩
        case rest =>
          clear HR5 HC5
          obtain ⟨p2, rfl, HR6, HC6⟩ := hcut
          go_upto_region 11 with fail
          go_cut [31] (fun v31 wx => ∃ b : Bool, v31 = .bool b ∧ Aside0 (Kd.R dI 3 wx W.heap.size (fun k => W.heap.size ≤ k) (.slice A l.length c) l) ∧ Aside0 (Cp w0 W wx g (M + 8 + 6 * j + 6)))
          case first =>
            go_wp2_with fail
            refine (l1In_c p2 55296 57343 _).mono ?_
            rintro e w7 ⟨d, rfl, hb7⟩
            have HC7 := Aside0.mk (Cp.below HC6.out hb7)
            have HR7 := Aside0.mk (Kd.R_below HR6.out hb7)
            clear hb7 HC6 HR6
            cases d with
            | true =>
              go_wp2_with fail
              refine (one_s g (M + 8 + 6 * j + 4) (by have := HM.out; have := HN.out; omega) w0 w7 (Cp.start HC7.out.cu HC7.out.bel) 4 (by omega) (by omega)).mono ?_
              rintro e w8 ⟨b, rfl, hc8⟩
              have HC8 := Aside0.mk (HC7.out.trans hc8)
              have HR8 := Aside0.mk (R_kp HR7.out hc8.keep HLT.out)
              clear hc8
              go_wp2
              go_meet
              case rel => exact ⟨_, rfl, HR8, HC8⟩
            | false =>
              go_wp2
              go_meet
              case rel => exact ⟨_, rfl, HR7, ⟨HC7.out.cu.up (by omega), HC7.out.bel, HC7.out.keep⟩⟩
          case rest =>
            clear HR6 HC6
            obtain ⟨b, rfl, HR8, HC8⟩ := hcut
            go_upto_if 31 with fail
            go_cut [6] (fun v6 wx => ∃ p : Int, v6 = .int .i64 p ∧ Aside0 (Kd.R dI 3 wx W.heap.size (fun k => W.heap.size ≤ k) (.slice A l.length c) l) ∧ Aside0 (Cp w0 W wx g (M + 8 + 6 * j + 6)))
            case first =>
              cases b with
              | true =>
                go_wp2
                go_meet
                case rel => exact ⟨_, rfl, HR8, HC8⟩
              | false =>
                go_wp2
                go_meet
                case rel => exact ⟨_, rfl, HR8, HC8⟩
            case rest =>
              clear HR8 HC8
              obtain ⟨p3, rfl, HR9, HC9⟩ := hcut
              have hsz := HC9.out.keep.1
              go_wp2_with (at_builtin; refine app_int HR9.out hsz p3 (by have := HL.out; have := HN.out; omega) rfl _ _ rfl rfl _ rfl (by simp) ?_; intro v1 u1 R1 G1; obtain ⟨A1, d1, rfl⟩ := Kd.R_slice R1; have HR1 := Aside0.mk R1; have HG1 := Aside0.mk G1; clear R1 G1)
              go_roundg k1
              case measure => omega
              case rel => exact ⟨j + 1, l ++ [p3], by omega, by first | rfl | rw [Pl.w64 (by omega) (by have := HN.out; omega)], ⟨by rw [List.length_append, HL.out]; rfl⟩, ⟨by first | exact HR1.out | (rw [List.length_append] at *; exact HR1.out)⟩, ⟨by have hc := Cp.grown HC9.out HG1.out HR9.out HLT.out H0.out; exact ⟨hc.cu.up (by omega), hc.bel, hc.keep⟩⟩⟩
end Go.Proofs.YtchjmkofdiejhaaDoor.OwnCuP
namespace Go.Proofs.YtchjmkofdiejhaaDoor.OwnCuT
open Go Go.RowKit Go.Proofs.YtchjmkofdiejhaaDoorW.PrintWords Go.Proofs.YtchjmkofdiejhaaDoorW.PrintLast Go.Proofs.YtchjmkofdiejhaaDoorW.PrintMore Go.Proofs.YtchjmkofdiejhaaDoor.OwnIs Go.Proofs.YtchjmkofdiejhaaDoor.OwnCu Go.Proofs.YtchjmkofdiejhaaDoor.OwnCuP
set_option linter.unusedVariables false
set_option linter.unusedSimpArgs false
theorem lit_S (l : List ByteArray) (W : World) (hl : l.length ≤ 1000 := by decide) : Kd.C Kd.string (W.alloc (.cells (l.map Value.string).toArray 9)) (some ⟨W.heap.size, 0, none⟩) l.length l := by
  refine Kd.C_of_reads (d := ByteArray.empty) ⟨rfl, by omega, fun _ => ⟨_, rfl, fun j hj => ?_⟩⟩
  have h := World.rowIs_alloc W (l.map Value.string).toArray 9 (fun i => .string (l.getD i ByteArray.empty)) (fun i hi => by
    have hi' : i < l.length := by simpa using hi
    simp [hi', List.getD_eq_getElem?_getD])
  have := h.cell (i := j) (by simpa using hj)
  have e : (Addr.mk W.heap.size 0 none).add j = ⟨W.heap.size, j, none⟩ := by simp [Addr.add]; omega
  rw [e, this]
theorem lit1 (x : Int) (W : World) : (convert 22 9 (.slice (some ⟨W.heap.size, 0, none⟩) 1 1)).run Tryd.prog (W.alloc (.cells #[.int .u8 x] 5)) = .ok (.string (strOfNums [x])) (W.alloc (.cells #[.int .u8 x] 5)) := by
  refine run_convert_bytes_arg _ 22 5 Tryd.underlying22 Tryd.underlying5 W.heap.size 0 1 1 [x] rfl (fun i hi => ?_) 9 Tryd.underlying9
  have h := (World.rowIs_alloc W #[.int .u8 x] 5 (fun i => .int .u8 ([x].getD i 0)) (fun i hi => by simp at hi; subst hi; rfl)).cell hi
  rw [Nat.zero_add]
  exact h
set_option maxRecDepth 100000 in
set_option maxHeartbeats 16000000 in
theorem of_s (g M : Nat) (hM : M ≤ 1000000) (w0 W : World) (hC : Cp w0 W W g M) (A : Option Addr) (c : Nat) (l : List ByteArray) (hr : Kd.C Kd.string W A l.length l) (hl : 1 ≤ l.length) (hl2 : l.length ≤ 100) (hf : ∀ ad, A = some ad → 0 < l.length → ad.block ≠ g) (hz : ∀ x ∈ l, x.size ≤ 100) : Calls Tryd.prog 42 #[.pointer (some ⟨g, 0, none⟩), .slice A l.length c] W fun e w' => ∃ r : ByteArray, e = .returned (.string r) ∧ r.size ≤ 100 ∧ Cp w0 W w' g (M + 2) := by
  have cp := pick_s g M hM w0 W hC (l.length : Int) (by omega) (by omega)
  have HR := Aside0.mk hr
  have HF := Aside0.mk hf
  have HZ := Aside0.mk hz
  clear hC hr hf hz
  go_enter Tryd.func42, Tryd.ntmps42
  go_wp2_with fail
  refine cp.mono ?_
  rintro e w1 ⟨x, rfl, hx, hc⟩
  obtain ⟨n, rfl⟩ : ∃ n : Nat, x = n := ⟨x.toNat, by omega⟩
  obtain ⟨ad, e, hy⟩ := (Kd.reads_of_C (d := ByteArray.empty) (Kd.C_keep ByteArray.empty HR.out hc.keep HF.out)).at_ n hx.1 hx.2
  subst e
  rw [Pl.rdOf_at ByteArray.empty l n (by omega)] at hy
  have hs := Aside0.mk (HZ.out l[n] (List.getElem_mem (by omega)))
  have p1 := hx.1
  have p2 := hx.2
  simp only [Int.toNat_natCast] at hy
  generalize l[n] = y at *
  go_wp2
  go_ret
  exact ⟨_, rfl, hs.out, hc⟩
set_option maxRecDepth 100000 in
set_option maxHeartbeats 16000000 in
theorem spoilt_s (g M : Nat) (hM : M ≤ 900000) (w0 W : World) (hC : Cp w0 W W g M) (t0 v : ByteArray) (ht : t0.size ≤ 100000) (hv : 1 ≤ v.size ∧ v.size ≤ 100) : Calls Tryd.prog 43 #[.pointer (some ⟨g, 0, none⟩), .string t0, .string v] W fun e w' => ∃ r : ByteArray, e = .returned (.string r) ∧ r.size ≤ t0.size + 2 ∧ Cp w0 W w' g (M + 14) := by
  have HM := Aside0.mk hM
  have HT := Aside0.mk ht
  have HV := Aside0.mk hv
  have cp1 := pick_s g M (by omega) w0 W hC 3 (by omega) (by omega)
  have hl1 := fun (X : World) (x : Int) => lit1 x X
  clear hC hM ht hv
  go_enter Tryd.func43, Tryd.ntmps43
  go_wp2_with fail
  refine cp1.mono ?_
  rintro e w1 ⟨n0, rfl, hn0, hc1⟩
  obtain ⟨n, rfl⟩ : ∃ n : Nat, n0 = n := ⟨n0.toNat, by omega⟩
  have HN := Aside0.mk (show n ≤ 2 by omega)
  have HC1 := Aside0.mk hc1
  clear cp1 hn0 hc1
  go_wp2
  go_loopg [1, 7] n (fun kq v1 v7 w' => ∃ (j : Nat) (t : ByteArray), j + kq = n ∧ v7 = .int .i64 kq ∧ v1 = .string t ∧ Aside0 (t.size ≤ t0.size + j) ∧ Aside0 (Cp w0 W w' g (M + 2 + 6 * j)))
  case atStart => exact ⟨0, t0, by omega, rfl, rfl, ⟨Nat.le_refl _⟩, HC1⟩
  case round =>
    clear HC1
    obtain ⟨j, t, hj, rfl, rfl, HS, HC⟩ := hrel
    cases gk with
    | zero =>
      have hd : decide ((0 : Int) < ((0 : Nat) : Int)) = false := decide_eq_false (by omega)
      go_wp2
      go_ret
      exact ⟨t, rfl, by have := HS.out; have := HN.out; omega, ⟨HC.out.cu.up (by have := HN.out; omega), HC.out.bel, HC.out.keep⟩⟩
    | succ k1 =>
      have hd : decide ((0 : Int) < ((k1 + 1 : Nat) : Int)) = true := decide_eq_true (by omega)
      by_cases z : t.size = 0
      · have hd2 : decide ((0 : Int) < (t.size : Int)) = false := decide_eq_false (by omega)
        have hd3 : decide (0 < t.size) = false := decide_eq_false (by omega)
        go_wp2
        go_ret
        exact ⟨t, rfl, by have := HS.out; have := HN.out; omega, ⟨HC.out.cu.up (by have := HN.out; omega), HC.out.bel, HC.out.keep⟩⟩
      · have hd2 : decide ((0 : Int) < (t.size : Int)) = true := decide_eq_true (by omega)
        have hd3 : decide (0 < t.size) = true := decide_eq_true (by omega)
        go_wp2_with fail
        refine (pick_s g (M + 2 + 6 * j) (by have := HM.out; have := HN.out; omega) w0 wr (Cp.start HC.out.cu HC.out.bel) (t.size : Int) (by omega) (by have := HS.out; have := HT.out; have := HN.out; omega)).mono ?_
        rintro e w3 ⟨i0, rfl, hi0, hc3⟩
        obtain ⟨i, rfl⟩ : ∃ n : Nat, i0 = n := ⟨i0.toNat, by omega⟩
        have HC3 := Aside0.mk (HC.out.trans hc3)
        have HI := Aside0.mk (show i < t.size by omega)
        clear hc3 hi0
        go_wp2_with fail
        refine (pick_s g _ (by have := HM.out; have := HN.out; omega) w0 w3 (Cp.start HC3.out.cu HC3.out.bel) (v.size : Int) (by have := HV.out; omega) (by have := HV.out; omega)).mono ?_
        rintro e w4 ⟨x0, rfl, hx0, hc4⟩
        have HC4 := Aside0.mk (HC3.out.trans hc4)
        have p1 := hx0.1
        have p2 := hx0.2
        clear hc4 hx0
        have hl2 := lit1 (bt v x0) w4
        go_wp2_with fail
        refine (pick_s g (M + 2 + 6 * j + 2 + 2) (by have := HM.out; have := HN.out; omega) w0 _ (Cp.start (HC4.out.cu.below (below_alloc (Below.refl _ _) _)) (below_alloc HC4.out.bel _)) 3 (by omega) (by omega)).mono ?_
        rintro e w5 ⟨y, rfl, hy, hc5⟩
        have HC5 := Aside0.mk ((Cp.below HC4.out (below_alloc (Below.refl w4.heap.size w4) (.cells #[.int .u8 (v[x0.toNat]'(by omega)).toNat] 5))).trans hc5)
        have HW := Aside0.mk (show (strOfNums [((v[x0.toNat]'(by omega)).toNat : Int)]).size = 1 from by rw [Pl.strOfNums_size]; rfl)
        clear hc5 hl2
        generalize strOfNums [((v[x0.toNat]'(by omega)).toNat : Int)] = wt at *
        have ew : IntKind.i64.wrap (((k1 + 1 : Nat) : Int) - 1) = (k1 : Int) := by rw [IntKind.wrap_i64]; have := HN.out; omega
        have ew2 : IntKind.i64.wrap ((i : Int) + 1) = ((i + 1 : Nat) : Int) := by rw [IntKind.wrap_i64]; have := HI.out; have := HS.out; have := HT.out; have := HN.out; omega
        have q1 : (0 : Int) ≤ (i : Int) := by omega
        have q2 : (i : Int) ≤ (t.size : Int) := by have := HI.out; omega
        have q3 : (0 : Int) ≤ ((i + 1 : Nat) : Int) := by omega
        have q4 : ((i + 1 : Nat) : Int) ≤ (t.size : Int) := by have := HI.out; omega
        have s1 : (t.extract 0 i).size = i := by rw [ByteArray.size_extract]; have := HI.out; omega
        have s2 : (t.extract i t.size).size = t.size - i := by rw [ByteArray.size_extract]; omega
        have s3 : (t.extract (i + 1) t.size).size = t.size - (i + 1) := by rw [ByteArray.size_extract]; omega
        have S1 := Aside0.mk s1
        have S2 := Aside0.mk s2
        have S3 := Aside0.mk s3
        clear s1 s2 s3
        have q5 : i ≤ t.size := by have := HI.out; omega
        have q6 : i + 1 ≤ t.size := by have := HI.out; omega
        have b1 : (9223372036854775807 < (t.extract 0 i).size + wt.size) = False := eq_false (by rw [S1.out, HW.out]; have := HI.out; have := HS.out; have := HT.out; have := HN.out; omega)
        have b2 : (9223372036854775807 < (t.extract 0 i ++ wt).size + (t.extract i t.size).size) = False := eq_false (by rw [ByteArray.size_append, S1.out, S2.out, HW.out]; have := HI.out; have := HS.out; have := HT.out; have := HN.out; omega)
        have b3 : (9223372036854775807 < (t.extract 0 i ++ wt).size + (t.extract (i + 1) t.size).size) = False := eq_false (by rw [ByteArray.size_append, S1.out, S3.out, HW.out]; have := HI.out; have := HS.out; have := HT.out; have := HN.out; omega)
        have b4 : (9223372036854775807 < (t.extract 0 i).size + (t.extract (i + 1) t.size).size) = False := eq_false (by rw [S1.out, S3.out]; have := HI.out; have := HS.out; have := HT.out; have := HN.out; omega)
        have b2' : (9223372036854775807 < (t.extract 0 i).size + wt.size + (t.extract i t.size).size) = False := eq_false (by rw [S1.out, S2.out, HW.out]; have := HI.out; have := HS.out; have := HT.out; have := HN.out; omega)
        have b3' : (9223372036854775807 < (t.extract 0 i).size + wt.size + (t.extract (i + 1) t.size).size) = False := eq_false (by rw [S1.out, S3.out, HW.out]; have := HI.out; have := HS.out; have := HT.out; have := HN.out; omega)
        have c1 : (9223372036854775807 < min i t.size + wt.size) = False := eq_false (by have := HW.out; have := HI.out; have := HS.out; have := HT.out; have := HN.out; omega)
        have c2 : (9223372036854775807 < i + wt.size) = False := eq_false (by have := HW.out; have := HI.out; have := HS.out; have := HT.out; have := HN.out; omega)
        have c3 : (9223372036854775807 < min i t.size + wt.size + (t.size - i)) = False := eq_false (by have := HW.out; have := HI.out; have := HS.out; have := HT.out; have := HN.out; omega)
        have c4 : (9223372036854775807 < i + wt.size + (t.size - i)) = False := eq_false (by have := HW.out; have := HI.out; have := HS.out; have := HT.out; have := HN.out; omega)
        have c5 : (9223372036854775807 < min i t.size + wt.size + (t.size - (i + 1))) = False := eq_false (by have := HW.out; have := HI.out; have := HS.out; have := HT.out; have := HN.out; omega)
        have c6 : (9223372036854775807 < i + wt.size + (t.size - (i + 1))) = False := eq_false (by have := HW.out; have := HI.out; have := HS.out; have := HT.out; have := HN.out; omega)
        have c7 : (9223372036854775807 < min i t.size + (t.size - (i + 1))) = False := eq_false (by have := HW.out; have := HI.out; have := HS.out; have := HT.out; have := HN.out; omega)
        have c8 : (9223372036854775807 < i + (t.size - (i + 1))) = False := eq_false (by have := HW.out; have := HI.out; have := HS.out; have := HT.out; have := HN.out; omega)
        by_cases y0 : y = 0
        · subst y0
          go_wp2
          repeat (go_quiet (fail); try go_wp2)
          go_roundg k1
          case measure => omega
          case rel => exact ⟨j + 1, _, by omega, by first | rfl | rw [Pl.w64 (by omega) (by have := HN.out; omega)], rfl, ⟨by rw [ByteArray.size_append, ByteArray.size_append, S1.out, S2.out, HW.out]; have := HI.out; have := HS.out; omega⟩, ⟨by first | exact HC5.out | (refine Cp.below HC5.out ?_; with_reducible repeat first | exact Below.refl _ _ | refine below_alloc ?_ _ | refine below_drew1 ?_ | refine pw_below_drewN ?_ _)⟩⟩
        · have n0 : (y == 0) = false := beq_eq_false_iff_ne.2 y0
          by_cases y1 : y = 1
          · subst y1
            go_wp2
            repeat (go_quiet (fail); try go_wp2)
            go_roundg k1
            case measure => omega
            case rel => exact ⟨j + 1, _, by omega, by first | rfl | rw [Pl.w64 (by omega) (by have := HN.out; omega)], rfl, ⟨by rw [ByteArray.size_append, ByteArray.size_append, S1.out, S3.out, HW.out]; have := HI.out; have := HS.out; omega⟩, ⟨by first | exact HC5.out | (refine Cp.below HC5.out ?_; with_reducible repeat first | exact Below.refl _ _ | refine below_alloc ?_ _ | refine below_drew1 ?_ | refine pw_below_drewN ?_ _)⟩⟩
          · have n1 : (y == 1) = false := beq_eq_false_iff_ne.2 y1
            go_wp2
            repeat (go_quiet (fail); try go_wp2)
            go_roundg k1
            case measure => omega
            case rel => exact ⟨j + 1, _, by omega, by first | rfl | rw [Pl.w64 (by omega) (by have := HN.out; omega)], rfl, ⟨by rw [ByteArray.size_append, S1.out, S3.out]; have := HI.out; have := HS.out; omega⟩, ⟨by first | exact HC5.out | (refine Cp.below HC5.out ?_; with_reducible repeat first | exact Below.refl _ _ | refine below_alloc ?_ _ | refine below_drew1 ?_ | refine pw_below_drewN ?_ _)⟩⟩
theorem enc_size (l : List Int) (k : Int) (hl : l.length ≤ 400) : (OwnText.encM l k).1.size ≤ 2000 := by
  unfold OwnText.encM
  split
  · show (strOfNums _).size ≤ _
    rw [Pl.strOfNums_size]
    have := OwnText.encL_len k l
    omega
  · exact Nat.zero_le _
set_option maxRecDepth 100000 in
set_option maxHeartbeats 16000000 in
theorem encoded_s (g M : Nat) (hM : M ≤ 400000) (w0 W : World) (hC : Cp w0 W W g M) (code : Int) : Calls Tryd.prog 28 #[.pointer (some ⟨g, 0, none⟩), .int .i64 code] W fun e w' => ∃ r : ByteArray, e = .returned (.string r) ∧ r.size ≤ 10000 ∧ Cp w0 W w' g (M + 5000) := by
  have HM := Aside0.mk hM
  have cp1 := points_s g M (by omega) w0 W hC
  clear hC hM
  go_enter Tryd.func28, Tryd.ntmps28
  go_wp2_with fail
  refine cp1.mono ?_
  rintro e w1 ⟨A, c, l, rfl, hl, hR, hc1⟩
  have hR1 := Kd.R_reads' hR
  have ce := OwnTextE.spec_EncodePoints A c l code w1 hR1.2.2 hR1.2.1 (by omega)
  have HS := Aside0.mk (enc_size l code hl)
  have HC1 := Aside0.mk hc1
  clear cp1 hl hR hR1 hc1
  generalize OwnText.encM l code = r at *
  obtain ⟨s, ok⟩ := r
  simp only at HS ce
  go_wp2_with fail
  refine ce.mono ?_
  rintro e w2 ⟨rfl, hb2⟩
  have HC2 := Aside0.mk (Cp.below HC1.out hb2)
  clear hb2 HC1 ce
  go_upto_if 15 with fail
  go_cut [5] (fun v5 wx => ∃ s : ByteArray, v5 = .string s ∧ Aside0 (s.size ≤ 2000) ∧ Aside0 (Cp w0 W wx g (M + 4002)))
  case first =>
    cases ok with
    | true =>
      go_wp2
      go_meet
      case rel => exact ⟨_, rfl, HS, ⟨HC2.out.cu.up (by omega), HC2.out.bel, HC2.out.keep⟩⟩
    | false =>
      go_wp2_with fail
      have hb := Cp.below HC2.out (below_alloc (Below.refl w2.heap.size w2) (.cells #[.string ⟨#[]⟩, .string ⟨#[97, 98, 99]⟩, .string ⟨#[195, 164]⟩, .string ⟨#[97, 0]⟩] 9))
      refine (of_s g _ (by have := HM.out; omega) w0 _ (Cp.start hb.cu hb.bel) (some ⟨w2.heap.size, 0, none⟩) 4 ([⟨#[]⟩, ⟨#[97, 98, 99]⟩, ⟨#[195, 164]⟩, ⟨#[97, 0]⟩] : List ByteArray) (lit_S ([⟨#[]⟩, ⟨#[97, 98, 99]⟩, ⟨#[195, 164]⟩, ⟨#[97, 0]⟩] : List ByteArray) w2) (by decide) (by decide) (fun ad h _ => by cases h; have := HC2.out.cu.lt; simp only; omega) (by intro x hx; simp only [List.mem_cons, List.not_mem_nil, or_false] at hx; rcases hx with rfl | rfl | rfl | rfl <;> decide)).mono ?_
      rintro e w3 ⟨x, rfl, hx, hc3⟩
      have HX := Aside0.mk hx
      clear hx
      go_wp2
      go_meet
      case rel => exact ⟨_, rfl, ⟨by have := HX.out; omega⟩, ⟨hb.trans hc3⟩⟩
  case rest =>
    clear HS HC2
    obtain ⟨s, rfl, HS, HC3⟩ := hcut
    go_wp2_with fail
    refine (pick_s g (M + 4002) (by have := HM.out; omega) w0 wc (Cp.start HC3.out.cu HC3.out.bel) 5 (by omega) (by omega)).mono ?_
    rintro e w4 ⟨y, rfl, hy, hc4⟩
    have HC4 := Aside0.mk (HC3.out.trans hc4)
    clear hy hc4 HC3
    by_cases y0 : y = 0
    · subst y0
      go_wp2_with fail
      refine (spoilt_s g _ (by have := HM.out; omega) w0 w4 (Cp.start HC4.out.cu HC4.out.bel) s ⟨#[0, 128, 192, 216, 220, 224, 255]⟩ (by have := HS.out; omega) (by decide)).mono ?_
      rintro e w5 ⟨x, rfl, hx, hc5⟩
      have HX := Aside0.mk hx
      clear hx
      go_wp2
      go_ret
      have hc := HC4.out.trans hc5
      exact ⟨_, rfl, by have := HX.out; have := HS.out; omega, ⟨hc.cu.up (by omega), hc.bel, hc.keep⟩⟩
    · have n0 : (y == 0) = false := beq_eq_false_iff_ne.2 y0
      by_cases y1 : y = 1
      · subst y1
        go_wp2_with fail
        have hb := Cp.below HC4.out (below_alloc (Below.refl w4.heap.size w4) (.cells #[.string ⟨#[192, 128]⟩, .string ⟨#[237, 160, 128]⟩, .string ⟨#[244, 144, 128, 128]⟩, .string ⟨#[0, 216]⟩, .string ⟨#[0, 220, 0, 216]⟩, .string ⟨#[224, 128, 128]⟩, .string ⟨#[128]⟩, .string ⟨#[248]⟩] 9))
        refine (of_s g _ (by have := HM.out; omega) w0 _ (Cp.start hb.cu hb.bel) (some ⟨w4.heap.size, 0, none⟩) 8 ([⟨#[192, 128]⟩, ⟨#[237, 160, 128]⟩, ⟨#[244, 144, 128, 128]⟩, ⟨#[0, 216]⟩, ⟨#[0, 220, 0, 216]⟩, ⟨#[224, 128, 128]⟩, ⟨#[128]⟩, ⟨#[248]⟩] : List ByteArray) (lit_S ([⟨#[192, 128]⟩, ⟨#[237, 160, 128]⟩, ⟨#[244, 144, 128, 128]⟩, ⟨#[0, 216]⟩, ⟨#[0, 220, 0, 216]⟩, ⟨#[224, 128, 128]⟩, ⟨#[128]⟩, ⟨#[248]⟩] : List ByteArray) w4) (by decide) (by decide) (fun ad h _ => by cases h; have := HC4.out.cu.lt; simp only; omega) (by intro x hx; simp only [List.mem_cons, List.not_mem_nil, or_false] at hx; rcases hx with rfl | rfl | rfl | rfl | rfl | rfl | rfl | rfl <;> decide)).mono ?_
        rintro e w5 ⟨x, rfl, hx, hc5⟩
        have HX := Aside0.mk hx
        clear hx
        go_wp2
        go_ret
        have hc := hb.trans hc5
        exact ⟨_, rfl, by have := HX.out; omega, ⟨hc.cu.up (by omega), hc.bel, hc.keep⟩⟩
      · have n1 : (y == 1) = false := beq_eq_false_iff_ne.2 y1
        go_wp2
        go_ret
        exact ⟨_, rfl, by have := HS.out; omega, ⟨HC4.out.cu.up (by omega), HC4.out.bel, HC4.out.keep⟩⟩
set_option maxRecDepth 100000 in
set_option maxHeartbeats 16000000 in
theorem draw2_s (A : Option Addr) (c : Nat) (code : List Int) (w : World) (hr : Kd.C (Kd.int .u8) w A code.length code) (hl : code.length ≤ 1048576) (hb : ∀ x ∈ code, 0 ≤ x ∧ x < 256) : Calls Tryd.prog 14 #[.slice A code.length c] w fun e w' => ∃ (s : ByteArray) (k k2 : Int), e = .returned (.tuple #[.string s, .int .i64 k, .int .i64 k2]) ∧ s.size ≤ 10000 ∧ Below w.heap.size w w' := by
  obtain ⟨X, hX⟩ : ∃ X, X = w.alloc (.cells #[.slice A code.length c, .int .i64 0, .int .u64 0] 44) := ⟨_, rfl⟩
  have hcu : Cu w X w.heap.size 0 := by
    subst hX
    exact ⟨A, c, code, 0, 0, heap_alloc_new w _, Nat.le_refl _, hr, hl, hb, by omega, by omega⟩
  have hbX : Below w.heap.size w X := by subst hX; exact below_alloc (Below.refl _ _) _
  have HC := Aside0.mk (Cp.start hcu hbX)
  have hs := hbX.size
  clear hr hl hb hcu hbX
  go_enter Tryd.func14, Tryd.ntmps14
  go_wp2_with fail
  rw [← hX]
  refine (code3_s w.heap.size 0 (by omega) w X HC.out).mono ?_
  rintro e w1 ⟨k, rfl, hc1⟩
  go_wp2_with fail
  refine (encoded_s w.heap.size (0 + 4) (by omega) w w1 (Cp.start hc1.cu hc1.bel) k).mono ?_
  rintro e w2 ⟨s, rfl, hz, hc2⟩
  have HZ := Aside0.mk hz
  clear hz
  go_wp2_with fail
  refine (code3_s w.heap.size _ (by omega) w w2 (Cp.start hc2.cu hc2.bel)).mono ?_
  rintro e w3 ⟨k2, rfl, hc3⟩
  go_wp2
  go_ret3
  exact ⟨s, k, k2, rfl, HZ.out, hc3.bel⟩
end Go.Proofs.YtchjmkofdiejhaaDoor.OwnCuT
namespace Go.Proofs.YtchjmkofdiejhaaDoor.OwnTrK
open Go Go.RowKit Go.Proofs.YtchjmkofdiejhaaDoorW.PrintWords Go.Proofs.YtchjmkofdiejhaaDoorW.PrintLast Go.Proofs.YtchjmkofdiejhaaDoorW.PrintMore Go.Proofs.YtchjmkofdiejhaaDoor.OwnIs Go.Proofs.YtchjmkofdiejhaaDoor.OwnDcP Go.Proofs.YtchjmkofdiejhaaDoor.OwnDcQ Go.Proofs.YtchjmkofdiejhaaDoor.OwnDcI Go.Proofs.YtchjmkofdiejhaaDoor.OwnDcK
set_option linter.unusedVariables false
set_option linter.unusedSimpArgs false
/-- What Transcode tells. -/
def trM (s : ByteArray) (frm tc : Int) : ByteArray × Bool := if (deC s frm).2 = true then OwnText.encM (deC s frm).1 tc else (⟨#[]⟩, false)
set_option maxRecDepth 100000 in
set_option maxHeartbeats 8000000 in
theorem tr_i (s : ByteArray) (frm tc : Int) (hs : s.size ≤ 1048576) (w : World) (hT : Tabs w) : Calls Tryd.prog 15 #[.string s, .int .i64 frm, .int .i64 tc] w fun e w' => e = .returned (.tuple #[.string (trM s frm tc).1, .bool (trM s frm tc).2]) ∧ Below w.heap.size w w' := by
  have cd := fun W (B : Below w.heap.size w W) => dp_i frm s hs W (Utf8Tabs_below hT B)
  have hln := deC_len s frm
  unfold trM
  generalize deC s frm = r at *
  obtain ⟨E, ok⟩ := r
  simp only at cd hln
  clear hT hs
  cases ok with
  | false =>
    simp only [Bool.false_eq_true, if_false]
    go_enter Tryd.func15, Tryd.ntmps15
    go_wp2_with fail
    refine (cd _ (Below.refl _ _)).mono ?_
    rintro e w2 ⟨A2, c2, rfl, R2, B2⟩
    have B := B2
    clear cd
    go_wp2_with fail
    go_ret2
    exact ⟨rfl, B⟩
  | true =>
    simp only [if_true]
    have ce0 := fun A2 c2 W h1 h2 => OwnText.encode_i A2 c2 E tc W h1 h2 (by omega)
    generalize OwnText.encM E tc = q at *
    obtain ⟨q1, q2⟩ := q
    simp only at ce0
    go_enter Tryd.func15, Tryd.ntmps15
    go_wp2_with fail
    refine (cd _ (Below.refl _ _)).mono ?_
    rintro e w2 ⟨A2, c2, rfl, R2, B2⟩
    have hrd := Kd.R_reads' R2
    have ce := ce0 A2 c2 w2 hrd.2.2 hrd.2.1
    have B := Aside0.mk B2
    clear cd R2 B2 hrd ce0
    go_wp2_with fail
    refine ce.mono ?_
    rintro e w3 ⟨rfl, hb3⟩
    have B3 := Aside0.mk (below_step B.out hb3)
    clear hb3
    go_wp2_with fail
    go_ret2
    exact ⟨rfl, B3.out⟩
set_option maxRecDepth 100000 in
set_option maxHeartbeats 8000000 in
theorem tr_s (s : ByteArray) (frm tc : Int) (hs : s.size ≤ 1048576) (w : World) (hT : Tabs w) : Calls Tryd.prog 16 #[.string s, .int .i64 frm, .int .i64 tc] w fun e w' => e = .returned (.tuple #[.string (trM s frm tc).1, .bool (trM s frm tc).2]) ∧ Below w.heap.size w w' := by
  have cd := fun W (B : Below w.heap.size w W) => dp_s frm s W
  have hln := deC_len s frm
  unfold trM
  generalize deC s frm = r at *
  obtain ⟨E, ok⟩ := r
  simp only at cd hln
  clear hT hs
  cases ok with
  | false =>
    simp only [Bool.false_eq_true, if_false]
    go_enter Tryd.func16, Tryd.ntmps16
    go_wp2_with fail
    refine (cd _ (Below.refl _ _)).mono ?_
    rintro e w2 ⟨A2, c2, rfl, R2, B2⟩
    have B := B2
    clear cd
    go_wp2_with fail
    go_ret2
    exact ⟨rfl, B⟩
  | true =>
    simp only [if_true]
    have ce0 := fun A2 c2 W h1 h2 => OwnTextE.spec_EncodePoints A2 c2 E tc W h1 h2 (by omega)
    generalize OwnText.encM E tc = q at *
    obtain ⟨q1, q2⟩ := q
    simp only at ce0
    go_enter Tryd.func16, Tryd.ntmps16
    go_wp2_with fail
    refine (cd _ (Below.refl _ _)).mono ?_
    rintro e w2 ⟨A2, c2, rfl, R2, B2⟩
    have hrd := Kd.R_reads' R2
    have ce := ce0 A2 c2 w2 hrd.2.2 hrd.2.1
    have B := Aside0.mk B2
    clear cd R2 B2 hrd ce0
    go_wp2_with fail
    refine ce.mono ?_
    rintro e w3 ⟨rfl, hb3⟩
    have B3 := Aside0.mk (below_step B.out hb3)
    clear hb3
    go_wp2_with fail
    go_ret2
    exact ⟨rfl, B3.out⟩
end Go.Proofs.YtchjmkofdiejhaaDoor.OwnTrK
namespace Go.Proofs.YtchjmkofdiejhaaDoor.OwnCtK
open Go Go.RowKit Go.Proofs.YtchjmkofdiejhaaDoorW.PrintWords Go.Proofs.YtchjmkofdiejhaaDoorW.PrintLast Go.Proofs.YtchjmkofdiejhaaDoorW.PrintMore Go.Proofs.YtchjmkofdiejhaaDoor.OwnIs Go.Proofs.YtchjmkofdiejhaaDoor.OwnDcP Go.Proofs.YtchjmkofdiejhaaDoor.OwnDcQ Go.Proofs.YtchjmkofdiejhaaDoor.OwnDcI
set_option linter.unusedVariables false
set_option linter.unusedSimpArgs false
set_option maxRecDepth 100000 in
set_option maxHeartbeats 8000000 in
theorem ct_i (s : ByteArray) (hs : s.size ≤ 1048576) (w : World) (hT : Tabs w) : Calls Tryd.prog 17 #[.string s] w fun e w' => e = .returned (.tuple #[.int .i64 ((decM 1 s).1.length : Int), .bool (decM 1 s).2]) ∧ Below w.heap.size w w' := by
  have cd := dec_i 1 (by decide) s hs w hT
  have hln := (decM_good 1 s).2
  generalize decM 1 s = r at *
  obtain ⟨E, ok⟩ := r
  simp only at cd hln
  clear hT hs
  go_enter Tryd.func17, Tryd.ntmps17
  go_wp2_with fail
  refine cd.mono ?_
  rintro e w2 ⟨A2, c2, rfl, R2, B2⟩
  have B := B2
  clear cd
  go_wp2_with fail
  go_ret2
  exact ⟨rfl, B⟩
end Go.Proofs.YtchjmkofdiejhaaDoor.OwnCtK
namespace Go.Proofs.YtchjmkofdiejhaaDoor.OwnFtL
open Go Go.RowKit Go.Proofs.YtchjmkofdiejhaaDoorW.PrintWords Go.Proofs.YtchjmkofdiejhaaDoorW.PrintLast Go.Proofs.YtchjmkofdiejhaaDoorW.PrintMore Go.Proofs.YtchjmkofdiejhaaDoor.OwnIs Go.Proofs.YtchjmkofdiejhaaDoor.OwnCu Go.Proofs.YtchjmkofdiejhaaDoor.OwnCuP Go.Proofs.YtchjmkofdiejhaaDoor.OwnCuT Go.Proofs.YtchjmkofdiejhaaDoor.OwnDcI
set_option linter.unusedVariables false
set_option linter.unusedSimpArgs false
theorem wf_u8 {a : Int} (h : (Lit.int .u8 a).wf = true) : 0 ≤ a ∧ a < 256 := by
  simp [Lit.wf, IntKind.min, IntKind.max, IntKind.signed, IntKind.bits] at h; omega
theorem pts_good {l : List Int} (h : l.all OwnDcP.goodB = true ∧ l.length ≤ 300) : OwnText.goodPts l = true := by
  unfold OwnText.goodPts
  have e : OwnText.goodB = OwnDcP.goodB := by
    funext p
    unfold OwnText.goodB OwnDcP.goodB
    exact decide_eq_decide.2 (by omega)
  rw [e, h.1, decide_eq_true h.2]
  rfl
/-- There and back. -/
theorem back (s : ByteArray) (a b : Int) (h : (OwnTrK.trM s a b).2 = true) : OwnTrK.trM (OwnTrK.trM s a b).1 b a = (s, true) ∧ (1 ≤ a ∧ a ≤ 3) ∧ (OwnDcK.deC s a).2 = true := by
  unfold OwnTrK.trM at h
  by_cases d : (OwnDcK.deC s a).2 = true
  · rw [if_pos d] at h
    have ha : 1 ≤ a ∧ a ≤ 3 := by
      unfold OwnDcK.deC at d
      by_cases c : 1 ≤ a ∧ a ≤ 3
      · exact c
      · rw [if_neg c] at d; cases d
    have e : OwnTrK.trM s a b = OwnText.encM (OwnDcK.deC s a).1 b := by unfold OwnTrK.trM; rw [if_pos d]
    have ed : OwnDcK.deC s a = OwnDcQ.decM a s := by unfold OwnDcK.deC; rw [if_pos ha]
    have hg := OwnDcQ.decM_good a s
    rw [ed] at d h e
    have r2 := OwnRt.rt2 a ha s d
    unfold OwnText.encM at h
    by_cases c : OwnText.goodPts (OwnDcQ.decM a s).1 = true ∧ 1 ≤ b ∧ b ≤ 3 ∧ (b = 3 → OwnText.narrowB (OwnDcQ.decM a s).1 = true)
    · have e2 : OwnText.encM (OwnDcQ.decM a s).1 b = (strOfNums (OwnText.encL b (OwnDcQ.decM a s).1), true) := by unfold OwnText.encM; rw [if_pos c]
      rw [e, e2]
      have r1 := OwnRt.rt1 b ⟨c.2.1, c.2.2.1⟩ (OwnDcQ.decM a s).1 hg.1 hg.2 c.2.2.2
      have eb : OwnDcK.deC (strOfNums (OwnText.encL b (OwnDcQ.decM a s).1)) b = ((OwnDcQ.decM a s).1, true) := by unfold OwnDcK.deC; rw [if_pos ⟨c.2.1, c.2.2.1⟩, r1]
      refine ⟨?_, ha, by rw [ed]; exact d⟩
      unfold OwnTrK.trM
      rw [eb, if_pos rfl]
      unfold OwnText.encM
      rw [if_pos ⟨pts_good hg, ha.1, ha.2, r2.2⟩, r2.1]
    · rw [if_neg c] at h; cases h
  · rw [if_neg d] at h; cases h
theorem none_back (s : ByteArray) (a b : Int) (h : (OwnTrK.trM s a b).2 = false) : (OwnTrK.trM s a b).1 = ⟨#[]⟩ := by
  unfold OwnTrK.trM at *
  split
  · rename_i d
    rw [if_pos d] at h
    unfold OwnText.encM at *
    split
    · rename_i c
      rw [if_pos c] at h; cases h
    · rfl
  · rfl
theorem tr_size (s : ByteArray) (a b : Int) : (OwnTrK.trM s a b).1.size ≤ 1048576 := by
  unfold OwnTrK.trM
  split
  · have h := OwnDcK.deC_len s a
    unfold OwnText.encM
    split
    · show (strOfNums _).size ≤ _
      rw [Pl.strOfNums_size]
      have := OwnText.encL_len b (OwnDcK.deC s a).1
      omega
    · exact Nat.zero_le _
  · exact Nat.zero_le _
set_option maxRecDepth 100000 in
set_option maxHeartbeats 16000000 in
theorem law_FnTranscoded (A : Option Addr) (c : Nat) (code : List Int) (w : World) (hr : Kd.C (Kd.int .u8) w A code.length code) (hb : ∀ x ∈ code, 0 ≤ x ∧ x < 256) (hl0 : code.length ≤ 9223372036854775807) (hT : Tabs w) : Calls Tryd.prog 4 #[.slice A code.length c] w fun e w' => e = .returned (.bool true) ∧ Below w.heap.size w w' := by
  have HT := Aside0.mk hT
  clear hT
  by_cases z : 1048576 < code.length
  · have d1 : decide ((1048576 : Int) < (code.length : Int)) = true := decide_eq_true (by omega)
    clear hr hb hl0
    go_enter Tryd.func4, Tryd.ntmps4
    go_wp2
    go_ret
    exact ⟨rfl, by with_reducible repeat first | exact Below.refl _ _ | refine below_alloc ?_ _ | refine below_drew1 ?_ | refine pw_below_drewN ?_ _⟩
  · have d1 : decide ((1048576 : Int) < (code.length : Int)) = false := decide_eq_false (by omega)
    have cd := draw2_s A c code w hr (by omega) hb
    clear hr hb hl0 z
    go_enter Tryd.func4, Tryd.ntmps4
    go_wp2_with fail
    refine cd.mono ?_
    rintro e w1 ⟨s, k, k2, rfl, hl, hB⟩
    have HL := Aside0.mk hl
    have HB := Aside0.mk hB
    clear hl hB cd d1
    have P1 := Aside0.mk (back s k k2)
    have P2 := Aside0.mk (none_back s k k2)
    have HZ := Aside0.mk (tr_size s k k2)
    have ci := fun w h => OwnTrK.tr_i s k k2 (by have := HL.out; omega) w h
    have cs := fun w h => OwnTrK.tr_s s k k2 (by have := HL.out; omega) w h
    have cb := fun t ht w h => OwnTrK.tr_i t k2 k ht w h
    have cc := fun w h => OwnCtK.ct_i s (by have := HL.out; omega) w h
    have cp := fun w h => OwnDcK.dp_i k s (by have := HL.out; omega) w h
    generalize OwnTrK.trM s k k2 = r at *
    obtain ⟨t, ok⟩ := r
    simp only at P1 P2 HZ ci cs
    go_wp2_with fail
    refine (ci w1 (Utf8Tabs_below HT.out HB.out)).mono ?_
    rintro e w2 ⟨rfl, hb2⟩
    have HB2 := Aside0.mk (below_step HB.out hb2)
    clear hb2 HB ci
    go_wp2_with fail
    refine (cs w2 (Utf8Tabs_below HT.out HB2.out)).mono ?_
    rintro e w3 ⟨rfl, hb3⟩
    have HB3 := Aside0.mk (below_step HB2.out hb3)
    clear hb3 HB2 cs
    cases ok with
    | false =>
      have e1 := P2.out rfl
      subst e1
      go_wp2
      go_ret
      exact ⟨rfl, HB3.out⟩
    | true =>
      have hp := P1.out rfl
      have c4 := cb t HZ.out w3 (Utf8Tabs_below HT.out HB3.out)
      rw [hp.1] at c4
      have HP := Aside0.mk hp
      clear hp cb
      go_wp2_with fail
      refine c4.mono ?_
      rintro e w4 ⟨rfl, hb4⟩
      have HB4 := Aside0.mk (below_step HB3.out hb4)
      clear hb4 HB3
      by_cases k1 : k = 1
      · subst k1
        have hd := HP.out.2.2
        have ed : OwnDcK.deC s 1 = OwnDcQ.decM 1 s := by unfold OwnDcK.deC; rw [if_pos (by decide)]
        rw [ed] at hd cp
        generalize OwnDcQ.decM 1 s = q at *
        obtain ⟨l, okl⟩ := q
        simp only at hd cc
        subst hd
        have HQ := Aside0.mk HP
        clear HP P1 ed
        go_wp2_with fail
        refine (cc w4 (Utf8Tabs_below HT.out HB4.out)).mono ?_
        rintro e w5 ⟨rfl, hb5⟩
        have HB5 := Aside0.mk (below_step HB4.out hb5)
        clear hb5 HB4
        go_wp2_with fail
        refine (cp w5 (Utf8Tabs_below HT.out HB5.out)).mono ?_
        rintro e w6 ⟨A6, c6, rfl, hR6, hb6⟩
        have HB6 := Aside0.mk (below_step HB5.out hb6)
        clear hb6 hR6
        go_wp2
        go_ret
        exact ⟨rfl, HB6.out⟩
      · have kb : (k == 1) = false := beq_eq_false_iff_ne.2 k1
        have kb2 : (k != 1) = true := by rw [bne_iff_ne]; exact k1
        go_wp2
        go_ret
        exact ⟨rfl, HB4.out⟩
end Go.Proofs.YtchjmkofdiejhaaDoor.OwnFtL
