/- A type as a tree: the program's walk; no condition of its own but the row's. -/
import Derived.Test.YtchjmkofdiejhaaOwnTyQ
import Derived.Deep.OwnRows
import Derived.Deep.RegionHeldLaw
import Derived.Deep.DeepCutAuto
import Derived.Deep.RegionLaw
namespace Go.Proofs.Ytchjmkofdiejhaa.OwnTyW
open Go Go.RowKit Go.Proofs.YtchjmkofdiejhaaW.PrintWords Go.Proofs.YtchjmkofdiejhaaW.PrintLast Go.Proofs.YtchjmkofdiejhaaW.PrintMore Go.Proofs.Ytchjmkofdiejhaa.PFnExactGoodType Go.Proofs.Ytchjmkofdiejhaa.OwnTyP Go.Proofs.Ytchjmkofdiejhaa.OwnTyQ
set_option linter.unusedVariables false
set_option linter.unusedSimpArgs false
theorem bcell {W w1 : World} (hb : Below W.heap.size W w1) : (∀ b o, b < W.heap.size → w1.cell? ⟨b, o, none⟩ = W.cell? ⟨b, o, none⟩) ∧ (∀ b o, b < W.heap.size → w1.frozen? ⟨b, o, none⟩ = W.frozen? ⟨b, o, none⟩) :=
  ⟨fun b o h => hb.cell (by simpa using h), fun b o h => World.frozen?_of_block (w := W) (hb.block b h)⟩
theorem iSh : (Try.prog.info? 49).map (fun i => (i.zero, i.size, i.bytes)) = some (some (.agg #[.int .i64 0, .int .i64 0, .slice none 0 0]), 3, 40) := by kernel_rfl
theorem iPtr : (Try.prog.info? 38).map (fun i => (i.zero, i.size, i.bytes)) = some (some (.pointer none), 1, 8) := by kernel_rfl
theorem mkSh (n : Nat) (h : n ≤ 40) (w : World) : (Instr.makeSlice 45 (.int .i64 (n : Int)) (.int .i64 (n : Int))).run Try.prog w = .ok (.slice (some ⟨w.heap.size, 0, none⟩) n n) (w.alloc (.cells (madeCells #[.int .i64 0, .int .i64 0, .slice none 0 0] (n * 3)) 49)) := by
  obtain ⟨i, hi, hzz⟩ := Option.map_eq_some_iff.1 iSh
  simp only [Prod.mk.injEq] at hzz
  obtain ⟨hz, hs, hb⟩ := hzz
  have hr := run_make (P := Try.prog) w _ _ i _ Try.underlying45 hi hz .i64 .i64 n n (by omega) (Int.le_refl _) (by rw [hb]; omega) (by omega)
  simp only [Int.toNat_natCast, hs] at hr
  exact hr
theorem mkIn (n : Nat) (h : n ≤ 40) (w : World) : (Instr.makeSlice 34 (.int .i64 (n : Int)) (.int .i64 (n : Int))).run Try.prog w = .ok (.slice (some ⟨w.heap.size, 0, none⟩) n n) (w.alloc (.cells (madeCells #[.int .i64 0] n) 3)) :=
  run_make_row' 34 3 (.int .i64 0) 8 Try.underlying34 info3 rfl .i64 .i64 n (by omega) (by omega) w
def upsF (l : List S31) (i : Nat) (j : Nat) : Value := if j < i then .int .i64 (uf l j) else .int .i64 0
theorem upsF_step (l : List S31) (i : Nat) : (fun j => if j = i then Value.int .i64 (uf l i) else upsF l i j) = upsF l (i + 1) := by
  funext j
  unfold upsF
  by_cases h : j = i
  · rw [if_pos h, if_pos (by omega), h]
  · rw [if_neg h]
    by_cases h2 : j < i
    · rw [if_pos h2, if_pos (by omega)]
    · rw [if_neg h2, if_neg (by omega)]
theorem ups_C {l : List S31} {w : World} {b : Nat} (h : w.rowIs b 3 l.length (upsF l l.length)) (hl : l.length ≤ 40) : Kd.C (Kd.int .i64) w (some ⟨b, 0, none⟩) l.length (l.map S31.f2) := by
  refine Kd.C_of_reads (d := (0 : Int)) ⟨List.length_map _, by omega, fun _ => ⟨_, rfl, fun j hj => ?_⟩⟩
  have := h.cell hj
  unfold upsF at this
  rw [if_pos hj] at this
  have e : (Addr.mk b 0 none).add j = ⟨b, j, none⟩ := by simp [Addr.add]; omega
  rw [e, this]
  unfold uf rd_T31
  simp [List.getD_eq_getElem?_getD, List.getElem?_map, hj]
theorem rd_ups (l : List S31) : rd (l.map S31.f2) = uf l := by
  funext i
  unfold rd uf rd_T31
  rw [List.getD_eq_getElem?_getD, List.getD_eq_getElem?_getD, List.getElem?_map]
  cases l[i.toNat]? <;> rfl
def dpF (l : List S31) (i : Nat) (j : Nat) : Value := if j < i then .int .i64 (dp (uf l) j) else .int .i64 0
theorem dpF_step (l : List S31) (i : Nat) : (fun j => if j = i then Value.int .i64 (dp (uf l) i) else dpF l i j) = dpF l (i + 1) := by
  funext j
  unfold dpF
  by_cases h : j = i
  · rw [if_pos h, if_pos (by omega), h]
  · rw [if_neg h]
    by_cases h2 : j < i
    · rw [if_pos h2, if_pos (by omega)]
    · rw [if_neg h2, if_neg (by omega)]
theorem madeSh (W : World) (n : Nat) : ∃ f, (W.alloc (.cells (madeCells #[.int .i64 0, .int .i64 0, .slice none 0 0] (n * 3)) 49)).rowIs W.heap.size 49 (n * 3) f := by
  refine ⟨fun i => (madeCells #[.int .i64 0, .int .i64 0, .slice none 0 0] (n * 3)).getD i undef, ?_⟩
  have h := World.rowIs_alloc W (madeCells #[.int .i64 0, .int .i64 0, .slice none 0 0] (n * 3)) 49 (fun i => (madeCells #[.int .i64 0, .int .i64 0, .slice none 0 0] (n * 3)).getD i undef) (fun i hi => by simp [Array.getD, hi])
  rwa [size_madeCells] at h
theorem made_a (W : World) (n : Nat) (o : Obj) : ∃ f, ((W.alloc (.cells (madeCells #[.int .i64 0, .int .i64 0, .slice none 0 0] (n * 3)) 49)).alloc o).drew.rowIs W.heap.size 49 (n * 3) f := by
  obtain ⟨f, h⟩ := madeSh W n
  exact ⟨f, h.alloc o⟩
theorem made_d (W : World) (l : List S31) (o : Obj) : ((W.alloc (.cells (madeCells #[.int .i64 0] l.length) 3)).alloc o).drew.rowIs W.heap.size 3 l.length (dpF l 0) :=
  ((World.rowIs_made W (.int .i64 0) l.length 3).congr (fun i _ => (if_neg (Nat.not_lt_zero _)).symm)).alloc o
theorem made_b (W : World) (l : List S31) (o : Obj) : ((W.alloc o).alloc (.cells (madeCells #[.int .i64 0] l.length) 3)).drew.rowIs (W.heap.size + 1) 3 l.length (dpF l 0) := by
  have h := World.rowIs_made (W.alloc o) (.int .i64 0) l.length 3
  rw [show (W.alloc o).heap.size = W.heap.size + 1 from by simp] at h
  exact h.congr (fun i _ => (if_neg (Nat.not_lt_zero _)).symm)
theorem made_c (W : World) (n : Nat) (o : Obj) : ∃ f, ((W.alloc o).alloc (.cells (madeCells #[.int .i64 0, .int .i64 0, .slice none 0 0] (n * 3)) 49)).drew.rowIs (W.heap.size + 1) 49 (n * 3) f := by
  obtain ⟨f, h⟩ := madeSh (W.alloc o) n
  rw [show (W.alloc o).heap.size = W.heap.size + 1 from by simp] at h
  exact ⟨f, h⟩
theorem dp_bound (u : Int → Int) : ∀ (n : Nat) (p : Int), p < n → 0 ≤ p → 1 ≤ dp u p ∧ dp u p ≤ p + 1
  | 0, p, h, h0 => by omega
  | n + 1, p, h, h0 => by
    unfold dp
    rw [dif_pos h0]
    by_cases c : u p < p
    · rw [dif_pos c]
      by_cases d : 0 ≤ u p
      · have := dp_bound u n (u p) (by omega) d
        omega
      · rw [dp_neg (by omega)]; omega
    · rw [dif_neg c]; omega
theorem allF_at {p : Nat → Bool} : ∀ (m i : Nat), allF p m i = true → ∀ j, i ≤ j → j < i + m → p j = true
  | 0, i, h, j, h1, h2 => by omega
  | m + 1, i, h, j, h1, h2 => by
    unfold allF at h
    rw [Bool.and_eq_true] at h
    by_cases e : j = i
    · rw [e]; exact h.1
    · exact allF_at m (i + 1) h.2 j (by omega) (by omega)
abbrev kP : Kd Addr := Kd.scalar (fun (p : Addr) => Value.pointer (some p)) (fun _ => rfl)
section
variable {ops : Array Oper} {o : Oper} {a : Act} {Q : Exit → Act → World → Prop} {Kc : Act → World → Prop}
theorem app_ptr_step {B : Nat} {W : World} {v : Value} {xs : List Addr} (HO : Kd.R kP 38 W B (fun k => B ≤ k) v xs) (hB : B ≤ W.heap.size) (y : Addr) (hl : xs.length ≤ 1048576) (hw : Region.wanted o (yielded ops a.tmps) = true) (N : Tmp) (hd : o.dst = some N) (s x : Operand) (ho : o.op = .call { callee := .builtin .append, args := #[s, x], argTypes := #[47, 47] })
    (hs : a.eval s = v) (b : Nat) (hx : a.eval x = .slice (some ⟨b, 0, none⟩) 1 1) (hb : b = W.heap.size)
    (K : ∀ v1 w1, Kd.R kP 38 w1 B (fun k => B ≤ k) v1 (xs ++ [y]) → W.grownBy w1 v.ownBlock → Kc (a.put (some N) v1) w1) : if Region.wanted o (yielded ops a.tmps) = true then Oper.wp Try.prog o a (W.alloc (.cells #[.pointer (some y)] 38)) Kc Q else Kc (a.put o.dst undef) (W.alloc (.cells #[.pointer (some y)] 38)) := by
  subst hb
  exact Kd.R_append_step kP (w0 := W) B hw s x 47 38 (.pointer none) 8 ho Try.underlying47 iPtr rfl (by decide) (by decide) v xs y [.pointer (some y)] (fun k => B ≤ k) (fun _ => False) hs hx rfl (fun _ hk => hk.elim) (fun k hk => Nat.le_trans hB hk) HO ⟨rfl, rfl, rfl, Nat.le_refl _, fun _ _ => rfl⟩ hB (by omega) (fun v1 w1 h1 h2 h3 _ => by rw [hd]; exact K v1 w1 h1 h3)
end
set_option maxRecDepth 100000 in
set_option maxHeartbeats 40000000 in
theorem shapeOf_i (A : Option Addr) (c : Nat) (l : List S31) (w : World) (hr : Kd.C k31 w A l.length l) (hl : l.length ≤ 1048576) : Calls Try.prog 13 #[.slice A l.length c] w fun e w' => ∃ p, e = .returned (.tuple #[p, .bool (tyM l)]) ∧ Below w.heap.size w w' := by
  by_cases g : 1 ≤ l.length ∧ l.length ≤ 40
  · have ht : tyM l = (allF (upo (uf l)) l.length 0 && allF (oka l) l.length 0) := by unfold tyM; rw [decide_eq_true g, Bool.true_and]
    have HT := Aside0.mk ht
    have HR := Aside0.mk hr
    have HG := Aside0.mk g
    have d1 : decide ((l.length : Int) < 1) = false := decide_eq_false (by omega)
    have d2 : decide (40 < (l.length : Int)) = false := decide_eq_false (by omega)
    have mk1 := mkIn l.length g.2
    have mk2 := mkSh l.length g.2
    obtain ⟨R, k1, k2, k3⟩ := kin_told (l.map S31.f2) (by rw [List.length_map]; exact g.2)
    obtain ⟨kk, k1⟩ := k1.rounds
    obtain ⟨X, ok⟩ := R
    rw [rd_ups, List.length_map] at k2 k3
    have HK2 := Aside0.mk k2
    have HK3 := Aside0.mk k3
    have ck := fun W (hW : Kd.C (Kd.int .i64) W (some ⟨w.heap.size, 0, none⟩) l.length (l.map S31.f2)) => impl_kin.calls kk (some ⟨w.heap.size, 0, none⟩) l.length (l.map S31.f2) X ok W (by rw [List.length_map]; exact hW) (by rw [List.length_map]; exact Nat.le_refl _) k1
    rw [List.length_map] at ck
    clear ht hr g hl k1 k2 k3
    go_enter Try.func13, Try.ntmps13
    go_wp2
    go_loopg [28] l.length (fun kq v28 w' => ∃ i : Nat, i + kq = l.length ∧ v28 = .int .i64 i ∧ Aside0 (w'.rowIs w.heap.size 3 l.length (upsF l i)) ∧ Aside0 (Below w.heap.size w w'))
    case atStart => exact ⟨0, by omega, rfl, ⟨(World.rowIs_made w (.int .i64 0) l.length 3).congr (fun i _ => (if_neg (Nat.not_lt_zero _)).symm)⟩, ⟨by with_reducible repeat first | exact Below.refl _ _ | refine below_alloc ?_ _ | refine below_drew1 ?_ | refine pw_below_drewN ?_ _⟩⟩
    case round =>
      obtain ⟨i, hi, rfl, HU, HB⟩ := hrel
      cases gk with
      | zero =>
        obtain rfl : i = l.length := by omega
        have hd : decide ((l.length : Int) < (l.length : Int)) = false := decide_eq_false (by omega)
        have hck := ck wr (ups_C HU.out HG.out.2)
        clear ck HU
        go_upto_if 45 with (first | (go_at_call 15; (with_reducible refine hck.mono ?_); rintro e w2 ⟨v0, rfl, hS, hb2⟩))
        have HB2 := Aside0.mk (below_step HB.out hb2)
        cases ok with
        | false =>
          have ht : tyM l = false := by rw [HT.out, ← HK2.out]; rfl
          go_wp2
          refine bodyPost_ret (v := .tuple #[.pointer none, .bool false]) (by simp [results, Try.results13, go_sem]) rfl ⟨_, by rw [ht], HB2.out⟩
        | true =>
          have ht : tyM l = allF (oka l) l.length 0 := by rw [HT.out, ← HK2.out]; rfl
          have HT := Aside0.mk ht
          have HKP := Aside0.mk (HK3.out rfl)
          have HUp := Aside0.mk (fun j (hj : j < l.length) => allF_at l.length 0 HK2.out.symm j (Nat.zero_le _) (by omega))
          have HW := Aside0.mk hS
          clear HK2 HK3 ht hck hb2 hS HB
          go_upto_region 12 with fail
          go_cut [9, 10] (fun v9 v10 wx => ∃ ba bd : Nat, v9 = .slice (some ⟨ba, 0, none⟩) l.length l.length ∧ v10 = .slice (some ⟨bd, 0, none⟩) l.length l.length ∧ Aside0 (ba ≠ bd ∧ w2.heap.size ≤ ba ∧ w2.heap.size ≤ bd) ∧ Aside0 (∃ f, wx.rowIs ba 49 (l.length * 3) f) ∧ Aside0 (wx.rowIs bd 3 l.length (dpF l 0)) ∧ Aside0 (Below w2.heap.size w2 wx))
          case first =>
            go_region
            all_goals
              go_wp2_with fail
              go_meet
              case rel =>
                first
                  | exact ⟨w2.heap.size, w2.heap.size + 1, rfl, rfl, ⟨⟨by omega, by omega, by omega⟩⟩, ⟨made_a w2 l.length _⟩, ⟨made_b w2 l _⟩, ⟨by with_reducible repeat first | exact Below.refl _ _ | refine below_alloc ?_ _ | refine below_drew1 ?_ | refine pw_below_drewN ?_ _⟩⟩
                  | exact ⟨w2.heap.size + 1, w2.heap.size, rfl, rfl, ⟨⟨by omega, by omega, by omega⟩⟩, ⟨made_c w2 l.length _⟩, ⟨made_d w2 l _⟩, ⟨by with_reducible repeat first | exact Below.refl _ _ | refine below_alloc ?_ _ | refine below_drew1 ?_ | refine pw_below_drewN ?_ _⟩⟩
          case rest =>
            obtain ⟨ba, bd, rfl, rfl, HN, HA, HD, HBc⟩ := hcut
            clear mk1 mk2
            have HXl := HKP.out.1
            obtain ⟨bk, ckc, rfl, _, _, _⟩ := Kd.S_form HW.out (by have := HG.out.1; omega)
            have HC := Aside0.mk (Kd.S_reads' HW.out).2.2
            clear HW
            rw [HXl]
            replace HXl := Aside0.mk HXl
            go_wp2
            go_loopg [54] l.length (fun kq v54 w' => ∃ i : Nat, i + kq = l.length ∧ v54 = .int .i64 i ∧ Aside0 (allF (oka l) l.length 0 = allF (oka l) kq i) ∧ Aside0 (∃ f, w'.rowIs ba 49 (l.length * 3) f) ∧ Aside0 (w'.rowIs bd 3 l.length (dpF l i)) ∧ Aside0 (Below w2.heap.size w2 w'))
            case atStart => exact ⟨0, by omega, rfl, ⟨rfl⟩, HA, HD, HBc⟩
            case round =>
              clear HA HD HBc
              obtain ⟨i, hi, rfl, HF, HA, HD, HB⟩ := hrel
              cases gk with
              | zero =>
                obtain rfl : i = l.length := by omega
                have hd : decide ((l.length : Int) < (l.length : Int)) = false := decide_eq_false (by omega)
                have q0 : (0 : Int) < (l.length : Int) := by have := HG.out.1; omega
                go_wp2
                refine bodyPost_ret (v := .tuple #[.pointer (some ⟨ba, 0, none⟩), .bool true]) (by simp [results, Try.results13, go_sem]) rfl ⟨_, by rw [HT.out, HF.out]; rfl, below_step HB2.out HB.out⟩
              | succ k1 =>
                have hil : i < l.length := by omega
                have hd : decide ((i : Int) < (l.length : Int)) = true := decide_eq_true (by omega)
                obtain ⟨ad, e, hx0, hx1, hx2⟩ := at_T31 HR.out i (by omega) (by omega)
                subst e
                have hbl := below_step HB2.out HB.out
                replace hx0 := (hbl.cell (World.block_lt_of_cell? w _ hx0)).trans hx0
                replace hx1 := (hbl.cell (World.block_lt_of_cell? w _ hx1)).trans hx1
                replace hx2 := (hbl.cell (World.block_lt_of_cell? w _ hx2)).trans hx2
                simp only [Int.toNat_natCast] at hx0 hx1 hx2
                have hu1 := HD.out.cell hil
                have hu2 := HD.out.frozen i
                have hu3 := HD.out.lt
                have q1 : (0 : Int) ≤ (i : Int) := by omega
                have q2 : (i : Int) < (l.length : Int) := by omega
                have ew : IntKind.i64.wrap ((i : Int) + 1) = (i : Int) + 1 := by rw [IntKind.wrap_i64]; have := HG.out.2; omega
                clear hbl
                go_upto_if 63 with fail
                obtain ⟨bx, hbx⟩ : ∃ x, x = wr.heap.size := ⟨_, rfl⟩
                obtain ⟨W3, hW3⟩ : ∃ x, x = ((wr.setCell ⟨bd, i, none⟩ (.int .i64 1)).alloc (.cells #[.int .i64 (rd_T31 l i).f0, .int .i64 (rd_T31 l i).f1, .int .i64 (rd_T31 l i).f2] 31)) := ⟨_, rfl⟩
                rw [← hbx, ← hW3]
                have HX3 : Aside0 (W3.cell? ⟨bx, 0, none⟩ = some (.int .i64 (rd_T31 l i).f0) ∧ W3.cell? ⟨bx, 1, none⟩ = some (.int .i64 (rd_T31 l i).f1) ∧ W3.cell? ⟨bx, 2, none⟩ = some (.int .i64 (rd_T31 l i).f2)) := ⟨by subst hW3 hbx; refine ⟨?_, ?_, ?_⟩ <;> go_simp⟩
                have HA3 : Aside0 (∃ f, W3.rowIs ba 49 (l.length * 3) f) := ⟨by subst hW3; obtain ⟨f, h⟩ := HA.out; exact ⟨f, (World.rowIs.setOther h HN.out.1 _).alloc _⟩⟩
                have HD3 : Aside0 (W3.rowIs bd 3 l.length (fun j => if j = i then .int .i64 1 else dpF l i j)) := ⟨by subst hW3; exact (World.rowIs.set HD.out i _).alloc _⟩
                have HB3 : Aside0 (Below w2.heap.size w2 W3) := ⟨by subst hW3; exact below_alloc (below_set HB.out HN.out.2.2) _⟩
                have HZ3 : Aside0 (bx ≠ ba ∧ bx ≠ bd ∧ w2.heap.size ≤ bx ∧ bx < W3.heap.size) := ⟨by subst hW3 hbx; obtain ⟨f, h⟩ := HA.out; have := h.lt; have := HB.out.size; refine ⟨by omega, by omega, by omega, by simp⟩⟩
                clear hW3 hbx HA HD HB hu1 hu2 hu3 hx0 hx1 hx2 hd
                go_cut [] (fun wx => Aside0 (wx.cell? ⟨bx, 0, none⟩ = some (.int .i64 (rd_T31 l i).f0) ∧ wx.cell? ⟨bx, 1, none⟩ = some (.int .i64 (rd_T31 l i).f1) ∧ wx.cell? ⟨bx, 2, none⟩ = some (.int .i64 (rd_T31 l i).f2)) ∧ Aside0 (∃ f, wx.rowIs ba 49 (l.length * 3) f) ∧ Aside0 (wx.rowIs bd 3 l.length (dpF l (i + 1))) ∧ Aside0 (Below w2.heap.size w2 wx))
                case first =>
                  by_cases z : i = 0
                  · have hd : decide (0 < (i : Int)) = false := decide_eq_false (by omega)
                    have e1 : dp (uf l) i = 1 := by
                      have := HUp.out i hil
                      unfold upo at this
                      rw [if_pos z, decide_eq_true_eq] at this
                      subst z
                      rw [dp_up (by omega) (by simp only [Int.natCast_zero]; omega)]
                      simp only [Int.natCast_zero]
                      rw [this, dp_neg (by omega)]
                      rfl
                    have HD4 : Aside0 (W3.rowIs bd 3 l.length (dpF l (i + 1))) := ⟨by rw [← dpF_step, e1]; exact HD3.out⟩
                    go_wp2
                    go_meet
                    case rel => exact ⟨HX3, HA3, HD4, HB3⟩
                  · have hd : decide (0 < (i : Int)) = true := decide_eq_true (by omega)
                    have hU : ar (uf l) (uf l i) ((i : Int) - 1) = true := by
                      have := HUp.out i hil
                      unfold upo at this
                      rwa [if_neg z] at this
                    have le := ar_le' hU
                    obtain ⟨a, ha⟩ : ∃ a : Nat, uf l i = a := ⟨(uf l i).toNat, by omega⟩
                    have hai : a < i := by omega
                    have e1 : dp (uf l) i = dp (uf l) a + 1 := by rw [dp_up (by omega) (by omega), ha]; omega
                    have bd1 := dp_bound (uf l) (a + 1) a (by omega) (by omega)
                    have x2 : W3.cell? ⟨bx, 2, none⟩ = some (.int .i64 a) := by rw [← ha]; exact HX3.out.2.2
                    have y1 : W3.cell? ⟨bd, a, none⟩ = some (.int .i64 (dp (uf l) a)) := by
                      refine (HD3.out.cell (show a < l.length by omega)).trans (congrArg some ?_)
                      show (if a = i then _ else dpF l i a) = _
                      rw [if_neg (by omega)]
                      unfold dpF
                      rw [if_pos hai]
                    have y2 : W3.cell? ⟨bd, i, none⟩ = some (.int .i64 1) := by
                      refine (HD3.out.cell hil).trans (congrArg some ?_)
                      show (if i = i then _ else dpF l i i) = _
                      rw [if_pos rfl]
                    have y3 := HD3.out.frozen i
                    have p1 : (0 : Int) ≤ (a : Int) := by omega
                    have p2 : (a : Int) < (l.length : Int) := by omega
                    have e2 : IntKind.i64.wrap (dp (uf l) a + 1) = dp (uf l) i := by rw [e1, IntKind.wrap_i64]; have := HG.out.2; omega
                    clear hU le ha e1 bd1 hai
                    go_wp2
                    go_meet
                    case rel =>
                      refine ⟨⟨?_⟩, ⟨?_⟩, ⟨?_⟩, ⟨below_set HB3.out HN.out.2.2⟩⟩
                      · obtain ⟨h1, h2, h3⟩ := HX3.out
                        have hne := HZ3.out.2.1
                        refine ⟨?_, ?_, ?_⟩
                        all_goals (rw [World.cell?_of_block (w := W3) (Below.heap_setCell W3 _ _ _ (by simpa using hne))]; assumption)
                      · obtain ⟨f, h⟩ := HA3.out
                        exact ⟨f, World.rowIs.setOther h HN.out.1 _⟩
                      · rw [← dpF_step]
                        refine (World.rowIs.set HD3.out i _).congr (fun j _ => ?_)
                        by_cases h : j = i
                        · rw [if_pos h, if_pos h]
                        · rw [if_neg h, if_neg h, if_neg h]
                case rest =>
                  clear HX3 HA3 HD3 HB3
                  obtain ⟨HX4, HA4, HD4, HB4⟩ := hcut
                  obtain ⟨W4, hW4⟩ : ∃ x, x = wc := ⟨_, rfl⟩
                  subst hW4
                  obtain ⟨adk, A0, c0, e, hk0, hk1, hk2⟩ := at_L3 HC.out i (by omega) (by have := HXl.out; omega)
                  have e : adk = ⟨bk, 0, none⟩ := (Option.some.inj e).symm
                  subst e
                  have HB5 := Aside0.mk (HB4.out)
                  have hbk : bk < w2.heap.size := by
                    have := World.block_lt_of_cell? w2 _ hk0
                    simp [Addr.add] at this
                    split at this <;> exact this
                  replace hk0 := (HB4.out.cell (World.block_lt_of_cell? w2 _ hk0)).trans hk0
                  have hk0 : W4.cell? ⟨bk, i, none⟩ = some (.slice A0 (rd_L3 X i).length c0) := by
                    have e : (Addr.mk bk 0 none).add (i : Int).toNat = ⟨bk, i, none⟩ := by simp [Addr.add]; omega
                    rwa [e] at hk0
                  have HKi := Aside0.mk hk2
                  have HL := Aside0.mk (HKP.out.2.1 i hil)
                  have HM := Aside0.mk (HKP.out.2.2 i hil)
                  have HCn := Aside0.mk (cnt_le (uf l) i l.length)
                  generalize hm : rd_L3 X i = ks at *
                  clear hk1 hk2 hm
                  obtain ⟨kn, hkn⟩ := (nodeOk_told (rd_T31 l i).f0 (rd_T31 l i).f1 (rd_T31 l i).f2 ks.length).rounds
                  have cn := fun W => impl_nodeOk.calls kn (rd_T31 l i).f0 (rd_T31 l i).f1 (rd_T31 l i).f2 ks.length _ W hkn
                  have hd1 : W4.cell? ⟨bd, i, none⟩ = some (.int .i64 (dp (uf l) i)) := by
                    refine (HD4.out.cell hil).trans (congrArg some ?_)
                    unfold dpF
                    rw [if_pos (by omega)]
                  obtain ⟨hx0, hx1, hx2⟩ := HX4.out
                  have ho : oka l i = (decide (dp (uf l) i ≤ 8) && nok (rd_T31 l i).f0 (rd_T31 l i).f1 ks.length) := by unfold oka; rw [HL.out]
                  have HO := Aside0.mk ho
                  have HF2 : Aside0 (allF (oka l) l.length 0 = (oka l i && allF (oka l) k1 (i + 1))) := ⟨HF.out⟩
                  clear hkn ho HF
                  by_cases c8 : dp (uf l) i ≤ 8
                  · have hd8 : decide (8 < dp (uf l) i) = false := decide_eq_false (by omega)
                    have HO := Aside0.mk (HO.out.trans (by rw [decide_eq_true c8, Bool.true_and]))
                    generalize nok (rd_T31 l i).f0 (rd_T31 l i).f1 ks.length = nk at *
                    clear c8
                    have hlt : bd < W4.heap.size ∧ bk < W4.heap.size ∧ bx < W4.heap.size := ⟨World.block_lt_of_cell? W4 _ hd1, World.block_lt_of_cell? W4 _ hk0, World.block_lt_of_cell? W4 _ hx0⟩
                    go_upto_region 19 with fail
                    go_cut [87] (fun v87 wx => v87 = .bool (!nk) ∧ Aside0 (Below W4.heap.size W4 wx))
                    case first =>
                      go_region_held_law (fun w' => w'.cell? ⟨bd, i, none⟩ = some (.int .i64 (dp (uf l) i)) ∧ w'.cell? ⟨bk, i, none⟩ = some (.slice A0 ks.length c0) ∧ w'.cell? ⟨bx, 0, none⟩ = some (.int .i64 (rd_T31 l i).f0) ∧ w'.cell? ⟨bx, 1, none⟩ = some (.int .i64 (rd_T31 l i).f1) ∧ w'.cell? ⟨bx, 2, none⟩ = some (.int .i64 (rd_T31 l i).f2)) (refine ⟨?_, ?_, ?_, ?_, ?_⟩ <;> go_simp) (first | (go_at_call 16; (with_reducible refine (cn _).mono ?_); rintro e w5 ⟨rfl, hb5⟩; have j0 : w5.cell? ⟨bd, i, none⟩ = some (.int .i64 (dp (uf l) i)) := (by rw [hb5.cell (by first | exact hlt.1 | (simp; exact hlt.1))]; go_simp); have j1 : w5.cell? ⟨bk, i, none⟩ = some (.slice A0 ks.length c0) := (by rw [hb5.cell (by first | exact hlt.2.1 | (simp; exact hlt.2.1))]; go_simp); have j2 : w5.cell? ⟨bx, 0, none⟩ = some (.int .i64 (rd_T31 l i).f0) := (by rw [hb5.cell (by first | exact hlt.2.2 | (simp; exact hlt.2.2))]; go_simp); have j3 : w5.cell? ⟨bx, 1, none⟩ = some (.int .i64 (rd_T31 l i).f1) := (by rw [hb5.cell (by first | exact hlt.2.2 | (simp; exact hlt.2.2))]; go_simp); have j4 : w5.cell? ⟨bx, 2, none⟩ = some (.int .i64 (rd_T31 l i).f2) := (by rw [hb5.cell (by first | exact hlt.2.2 | (simp; exact hlt.2.2))]; go_simp)))
                      all_goals
                        simp only [Exit.then]; first | (rename_i kk; refine kk _ _ ?_) | (rename_i kk _; refine kk _ _ ?_) | (rename_i kk _ _; refine kk _ _ ?_) | (rename_i kk _ _ _; refine kk _ _ ?_) | (rename_i kk _ _ _ _; refine kk _ _ ?_) | (rename_i kk _ _ _ _ _; refine kk _ _ ?_)
                        go_wp2_with fail
                        go_meet
                        case rel =>
                          refine ⟨rfl, ⟨?_⟩⟩
                          with_reducible repeat first | exact Below.refl _ _ | refine below_alloc ?_ _ | refine below_drew1 ?_ | refine pw_below_drewN ?_ _ | refine below_step ?_ hb5
                    case rest =>
                      obtain ⟨rfl, HB6⟩ := hcut
                      have HA6 : Aside0 (∃ f, wc.rowIs ba 49 (l.length * 3) f) := ⟨by obtain ⟨f, h⟩ := HA4.out; exact ⟨f, World.rowIs.of_block h (HB6.out.block _ h.lt)⟩⟩
                      have HD6 : Aside0 (wc.rowIs bd 3 l.length (dpF l (i + 1))) := ⟨World.rowIs.of_block HD4.out (HB6.out.block _ HD4.out.lt)⟩
                      have HB7 := Aside0.mk (below_step HB4.out HB6.out)
                      replace hk0 := (HB6.out.cell hlt.2.1).trans hk0
                      replace hx0 := (HB6.out.cell hlt.2.2).trans hx0
                      replace hx1 := (HB6.out.cell hlt.2.2).trans hx1
                      clear HX4 HA4 HD4 HB4 HB6 hlt hd1 cn hx2 hd8 HB5
                      cases nk with
                      | false =>
                        go_wp2
                        have ht : tyM l = false := by rw [HT.out, HF2.out, HO.out, Bool.false_and]
                        refine bodyPost_ret (v := .tuple #[.pointer none, .bool false]) (by simp [results, Try.results13, go_sem]) rfl (by first | (rw [ht]; exact ⟨_, rfl, below_step HB2.out HB7.out⟩) | (rw [ht]; exact ⟨⟨_, rfl⟩, below_step HB2.out HB7.out⟩) | trace_state)
                      | true =>
                        have HF3 : Aside0 (allF (oka l) l.length 0 = allF (oka l) k1 (i + 1)) := ⟨by rw [HF2.out, HO.out, Bool.true_and]⟩
                        clear HF2 HO
                        obtain ⟨f, HA7⟩ := HA6.out
                        have a0 := HA7.cell (show i * 3 < l.length * 3 by omega)
                        have a1 := HA7.cell (show i * 3 + 1 < l.length * 3 by omega)
                        have a2 := HA7.cell (show i * 3 + 2 < l.length * 3 by omega)
                        have b0 := HA7.frozen (i * 3)
                        have b1 := HA7.frozen (i * 3 + 1)
                        have b2 := HA7.frozen (i * 3 + 2)
                        go_upto_region 22 with fail
                        obtain ⟨W7, hW7⟩ : ∃ x, x = (((wc.setCell ⟨ba, i * 3, none⟩ (.int .i64 (rd_T31 l i).f0)).setCell ⟨ba, i * 3 + 1, none⟩ (.int .i64 (rd_T31 l i).f1)).setCell ⟨ba, i * 3 + 2, none⟩ (.slice none 0 0)) := ⟨_, rfl⟩
                        rw [← hW7]
                        obtain ⟨f7, HA8, hf7⟩ : ∃ f, W7.rowIs ba 49 (l.length * 3) f ∧ f (i * 3 + 2) = .slice none 0 0 := by
                          subst hW7
                          exact ⟨_, World.rowIs.set (World.rowIs.set (World.rowIs.set HA7 _ _) _ _) _ _, by simp⟩
                        have HD8 : Aside0 (W7.rowIs bd 3 l.length (dpF l (i + 1))) := ⟨by subst hW7; exact World.rowIs.setOther (World.rowIs.setOther (World.rowIs.setOther HD6.out (Ne.symm HN.out.1) _) (Ne.symm HN.out.1) _) (Ne.symm HN.out.1) _⟩
                        have HB8 : Aside0 (Below w2.heap.size w2 W7) := ⟨by subst hW7; exact below_set (below_set (below_set HB7.out HN.out.2.1) HN.out.2.1) HN.out.2.1⟩
                        have hsz7 : W7.heap.size = wc.heap.size := by subst hW7; simp
                        have hk7 : ∀ k, k < wc.heap.size → k ≠ ba → W7.heap[k]? = wc.heap[k]? := fun k _ hk => by
                          subst hW7
                          rw [Below.heap_setCell _ _ _ _ hk, Below.heap_setCell _ _ _ _ hk, Below.heap_setCell _ _ _ _ hk]
                        have hbka : bk ≠ ba := by have := HN.out.2.1; omega
                        replace hk0 : W7.cell? ⟨bk, i, none⟩ = some (.slice A0 ks.length c0) := (World.cell?_of_block (w := wc) (hk7 bk (World.block_lt_of_cell? wc _ hk0) hbka)).trans hk0
                        clear a0 a1 a2 b0 b1 b2 hW7 hx0 hx1 HA6 HD6 HA7
                        have HA9 := Aside0.mk (⟨HA8, hf7⟩ : W7.rowIs ba 49 (l.length * 3) f7 ∧ f7 (i * 3 + 2) = .slice none 0 0)
                        have HLT := Aside0.mk (HA8.lt)
                        have HD9 := Aside0.mk (HD8.out.lt)
                        clear HA8 hf7
                        go_wp2
                        go_loopg [101] ks.length (fun kq v101 w' => ∃ (j : Nat) (vp : Value) (ps : List Addr) (f : Nat → Value), j + kq = ks.length ∧ v101 = .int .i64 j ∧ Aside0 (ps.length = j) ∧ Aside0 (Kd.R kP 38 w' W7.heap.size (fun k => W7.heap.size ≤ k) vp ps) ∧ Aside0 (w'.rowIs ba 49 (l.length * 3) f ∧ f (i * 3 + 2) = vp) ∧ Aside0 (w'.rowIs bd 3 l.length (dpF l (i + 1))) ∧ Aside0 (Below w2.heap.size w2 w') ∧ Aside0 (W7.heap.size ≤ w'.heap.size))
                        case atStart => exact ⟨0, .slice none 0 0, [], f7, by omega, rfl, ⟨rfl⟩, ⟨Kd.R_nil kP _ _ _ _⟩, HA9, HD8, HB8, ⟨Nat.le_refl _⟩⟩
                        case round =>
                          clear HA9 HD8 HB8
                          obtain ⟨j, vp, ps, f, hj, rfl, HP, HRp, HAf, HDj, HBj, HSj⟩ := hrel
                          obtain ⟨Av, cv, rfl⟩ := Kd.R_slice HRp.out

                          cases gk with
                          | zero =>
                            have hd : decide ((j : Int) < (ks.length : Int)) = false := decide_eq_false (by omega)
                            go_wp2
                            go_roundg k1
                            case measure => omega
                            case rel => exact ⟨i + 1, by omega, by rw [Int.natCast_add]; rfl, HF3, ⟨⟨f, HAf.out.1⟩⟩, HDj, HBj⟩
                          | succ k2 =>
                            have hjl : j < ks.length := by omega
                            have hd : decide ((j : Int) < (ks.length : Int)) = true := decide_eq_true (by omega)
                            obtain ⟨adj, e, hy0⟩ := (Kd.reads_of_C (d := (0 : Int)) HKi.out).at_ j (by omega) (by omega)
                            subst e
                            replace hy0 := (HBj.out.cell (World.block_lt_of_cell? w2 _ hy0)).trans hy0
                            rw [Pl.rdOf_at 0 ks j hjl] at hy0
                            simp only [Int.toNat_natCast] at hy0
                            have hmj := HM.out ks[j] (List.getElem_mem hjl)
                            generalize ks[j] = kz at *
                            obtain ⟨kx, rfl⟩ : ∃ kx : Nat, kz = kx := ⟨kz.toNat, by omega⟩
                            have r1 : (0 : Int) ≤ (j : Int) := by omega
                            have r2 : (j : Int) < (ks.length : Int) := by omega
                            have p1 : (0 : Int) ≤ (kx : Int) := by omega
                            have p2 : (kx : Int) < (l.length : Int) := by omega
                            have ew2 : IntKind.i64.wrap ((j : Int) + 1) = (j : Int) + 1 := by rw [IntKind.wrap_i64]; have := HG.out.2; have := HL.out; have := HCn.out; omega
                            have a2 : wr.cell? ⟨ba, i * 3 + 2, none⟩ = some (.slice Av ps.length cv) := by rw [HAf.out.1.cell (show i * 3 + 2 < l.length * 3 by omega), HAf.out.2]
                            have b2 := HAf.out.1.frozen (i * 3 + 2)
                            have hne : some ba ≠ (Value.slice Av ps.length cv).ownBlock := fun e => by have := Kd.R_base HRp.out _ e.symm; have := HLT.out; omega
                            have hblt := HAf.out.1.lt
                            have hps : ps.length ≤ 1048576 := by have := HG.out.2; have := HL.out; have := HCn.out; have := HP.out; omega
                            clear hmj
                            go_wp2
                            go_region_law (first | ((first | (refine app_ptr_step (B := W7.heap.size) (W := wr) HRp.out HSj.out ⟨ba, kx * 3, none⟩ hps rfl 116 rfl _ _ rfl rfl _ rfl (by simp) ?_) | (refine app_ptr_step (B := W7.heap.size) (W := wr.drew) (Kd.R_drew HRp.out) HSj.out ⟨ba, kx * 3, none⟩ hps rfl 116 rfl _ _ rfl rfl _ rfl (by simp) ?_)); intro v1 u1 R1 G1; obtain ⟨A1, d1, rfl⟩ := Kd.R_slice R1; have HA1 := Aside0.mk (World.rowIs.of_block HAf.out.1 (G1.block ba (by first | exact HAf.out.1.lt | (simp; exact HAf.out.1.lt)) hne)); have j0 : u1.cell? ⟨ba, i * 3 + 2, none⟩ = some (.slice Av ps.length cv) := (by rw [HA1.out.cell (show i * 3 + 2 < l.length * 3 by omega), HAf.out.2]); have j1 := HA1.out.frozen (i * 3 + 2); have HR1 := Aside0.mk R1; have HG1 := Aside0.mk G1; clear R1 G1))
                            all_goals
                              have hnd : some bd ≠ (Value.slice Av ps.length cv).ownBlock := fun e => by
                                have := Kd.R_base HRp.out _ e.symm
                                have := HD9.out
                                omega
                              go_wp2
                              go_roundg k2
                              case measure => omega
                              case rel =>
                                have HR2 := HR1.out
                                rw [show (ps ++ [(⟨ba, kx * 3, none⟩ : Addr)]).length = ps.length + 1 from by simp] at HR2
                                refine ⟨j + 1, .slice A1 (ps.length + 1) d1, ps ++ [⟨ba, kx * 3, none⟩], _, by omega, by rw [Int.natCast_add]; rfl, ⟨by rw [List.length_append, HP.out]; rfl⟩, ⟨?_⟩, ⟨World.rowIs.set HA1.out _ _, by simp⟩, ⟨?_⟩, ⟨?_⟩, ⟨?_⟩⟩
                                · exact Kd.R_far (p := ⟨ba, i * 3 + 2, none⟩) HR2 (fun k hk e => by have := HLT.out; simp only at e; omega) _
                                · exact World.rowIs.setOther (World.rowIs.of_block HDj.out (HG1.out.block bd (by first | exact HDj.out.lt | (simp; exact HDj.out.lt)) hnd)) (Ne.symm HN.out.1) _
                                · have hs1 := HBj.out.size
                                  first | exact below_set (HBj.out.grown HG1.out (by first | exact hs1 | (simp; exact hs1)) (fun k h => by have := Kd.R_base HRp.out k h; have := HLT.out; have := HN.out.2.1; omega)) HN.out.2.1 | exact below_set ((below_drew1 HBj.out).grown HG1.out (by first | exact hs1 | (simp; exact hs1)) (fun k h => by have := Kd.R_base HRp.out k h; have := HLT.out; have := HN.out.2.1; omega)) HN.out.2.1
                                · have hs1 := HSj.out
                                  have hs2 := HG1.out.size
                                  simp at hs2 ⊢
                                  omega
                  · have hd8 : decide (8 < dp (uf l) i) = true := decide_eq_true (by omega)
                    have ht : tyM l = false := by rw [HT.out, HF2.out, HO.out, decide_eq_false c8, Bool.false_and, Bool.false_and]
                    go_wp2
                    go_region
                    all_goals
                      go_wp2
                      refine bodyPost_ret (v := .tuple #[.pointer none, .bool false]) (by simp [results, Try.results13, go_sem]) rfl ⟨_, by rw [ht], ?_⟩
                      have HHH := below_step HB2.out HB4.out
                      with_reducible repeat first | exact HHH | refine below_alloc ?_ _ | refine below_drew1 ?_ | refine pw_below_drewN ?_ _
      | succ k1 =>
        have hil : i < l.length := by omega
        have hd : decide ((i : Int) < (l.length : Int)) = true := decide_eq_true (by omega)
        obtain ⟨ad, e, hx0, hx1, hx2⟩ := at_T31 HR.out i (by omega) (by omega)
        subst e
        have hbl := HB.out
        replace hx0 := (hbl.cell (World.block_lt_of_cell? w _ hx0)).trans hx0
        replace hx1 := (hbl.cell (World.block_lt_of_cell? w _ hx1)).trans hx1
        replace hx2 := (hbl.cell (World.block_lt_of_cell? w _ hx2)).trans hx2
        simp only [Int.toNat_natCast] at hx0 hx1 hx2
        have hu1 := HU.out.cell hil
        have hu2 := HU.out.frozen i
        have hu3 := HU.out.lt
        have q1 : (0 : Int) ≤ (i : Int) := by omega
        have q2 : (i : Int) < (l.length : Int) := by omega
        have ew : IntKind.i64.wrap ((i : Int) + 1) = (i : Int) + 1 := by rw [IntKind.wrap_i64]; have := HG.out.2; omega
        clear hbl mk1 mk2 ck
        go_wp2
        go_roundg k1
        case measure => omega
        case rel => exact ⟨i + 1, by omega, by rw [Int.natCast_add]; rfl, ⟨by rw [← upsF_step]; exact (World.rowIs.set HU.out i _).alloc _⟩, ⟨below_alloc (below_set HB.out (Nat.le_refl _)) _⟩⟩
  · have ht : tyM l = false := by unfold tyM; rw [decide_eq_false g, Bool.false_and]
    by_cases g1 : l.length < 1
    · have d1 : decide ((l.length : Int) < 1) = true := decide_eq_true (by omega)
      clear hr
      go_enter Try.func13, Try.ntmps13
      go_wp2
      refine bodyPost_ret (v := .tuple #[.pointer none, .bool false]) (by simp [results, Try.results13, go_sem]) rfl ⟨_, by rw [ht], ?_⟩
      with_reducible repeat first | exact Below.refl _ _ | refine below_alloc ?_ _ | refine below_drew1 ?_ | refine pw_below_drewN ?_ _
    · have d1 : decide ((l.length : Int) < 1) = false := decide_eq_false (by omega)
      have d2 : decide (40 < (l.length : Int)) = true := decide_eq_true (by omega)
      clear hr
      go_enter Try.func13, Try.ntmps13
      go_wp2
      refine bodyPost_ret (v := .tuple #[.pointer none, .bool false]) (by simp [results, Try.results13, go_sem]) rfl ⟨_, by rw [ht], ?_⟩
      with_reducible repeat first | exact Below.refl _ _ | refine below_alloc ?_ _ | refine below_drew1 ?_ | refine pw_below_drewN ?_ _
end Go.Proofs.Ytchjmkofdiejhaa.OwnTyW
