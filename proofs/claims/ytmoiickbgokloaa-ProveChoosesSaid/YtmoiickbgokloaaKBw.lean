/- Walk: the specification's begin lays the matrix of the lines alone. -/
import Derived.Test.YtmoiickbgokloaaKMx
import Derived.Test.YtmoiickbgokloaaKLTx0
namespace Go.Proofs.Ytmoiickbgokloaa.PA
open Go.RowKit Go.Proofs.YtmoiickbgokloaaW.PrintWords Go.Proofs.YtmoiickbgokloaaW.PrintLast Go.Proofs.YtmoiickbgokloaaW.PrintMore Go.Proofs.Ytmoiickbgokloaa.Utv
attribute [local go_sem] max2_int min2_int max_two min_two max_three min_three max_four min_four   -- for this text's walks alone
set_option linter.unusedVariables false
set_option linter.unusedSimpArgs false
set_option maxRecDepth 100000 in
set_option maxHeartbeats 1000000 in
theorem oth_same (i : Nat) (w : World) (hi : i < 1000) :
 Calls Try.prog 103 #[.int .i64 (i : Nat)] w fun e w' => e = .returned (.int .i64 (oth i : Nat)) ∧ w = w' := by
 by_cases h : i % 2 = 0
 · have e : ((oth i : Nat) : Int) = (i : Int) + 1 := by unfold oth; rw [if_pos h]; omega
   have hb : ((i : Int).tmod 2 == 0) = true := by rw [beq_iff_eq, Int.tmod_eq_emod_of_nonneg (by omega)]; omega
   rw [e]; clear e
   go_enter Try.func103, Try.ntmps103
   go_wp2
   go_ret
   exact ⟨rfl, rfl⟩
 · have e : ((oth i : Nat) : Int) = (i : Int) - 1 := by unfold oth; rw [if_neg h]; omega
   have hb : ((i : Int).tmod 2 == 0) = false := by rw [beq_eq_false_iff_ne, Int.tmod_eq_emod_of_nonneg (by omega)]; omega
   rw [e]; clear e
   go_enter Try.func103, Try.ntmps103
   go_wp2
   go_ret
   exact ⟨rfl, rfl⟩
set_option maxRecDepth 100000 in
set_option maxHeartbeats 1000000 in
theorem node_same (k s : Int) (w : World) (h0 : 0 ≤ k) (h1 : k ≤ 12) (hs : s = 1 ∨ s = -1) :
 Calls Try.prog 105 #[.int .i64 k, .int .i64 s] w fun e w' => e = .returned (.int .i64 (endN k s : Nat)) ∧ w = w' := by
 rw [← endI_nat h0]
 rcases hs with rfl | rfl
 · have e : endI k 1 = 2 * k := by unfold endI; rw [if_pos (by omega)]
   rw [e]; clear e
   go_enter Try.func105, Try.ntmps105
   go_wp2
   go_ret
   exact ⟨rfl, rfl⟩
 · have e : endI k (-1) = 2 * k + 1 := by unfold endI; rw [if_neg (by omega)]
   rw [e]; clear e
   go_enter Try.func105, Try.ntmps105
   go_wp2
   go_ret
   exact ⟨rfl, rfl⟩
theorem row_snoc (m : Vm) (i k : Nat) : (List.range k).map (fun q => m i q) ++ [m i k] = (List.range (k + 1)).map (fun q => m i q) := by rw [List.range_succ, List.map_append]; rfl
theorem rows_snoc (N : Nat) (m : Vm) (i : Nat) : (List.range i).map (fun p => rowOf N m p) ++ [rowOf N m i] = (List.range (i + 1)).map (fun p => rowOf N m p) := by rw [List.range_succ, List.map_append]; rfl
theorem Mx.below0 {w0 w : World} {gi k : Nat} {v : Int} (hb : Below w0.heap.size w0 w) (hw : w.grownBy (w.setCell ⟨gi, k, none⟩ (.int .i64 v)) (some gi)) (hg : w0.heap.size ≤ gi) : Below w0.heap.size w0 (w.setCell ⟨gi, k, none⟩ (.int .i64 v)) := below_of_grown hb hg hw
set_option maxRecDepth 100000 in
set_option maxHeartbeats 8000000 in
theorem begin_calls (n : Nat) (A : Option Addr) (c : Nat) (l : List S24) (w : World) (hn1 : 1 ≤ n) (hn : n ≤ 12) (hr : Rts n l) (hll : l.length ≤ 40) (hl : Kd.C k24 w A l.length l) (hc : l.length ≤ c) :
 Calls Try.prog 102 #[.int .i64 (n : Nat), .slice A l.length c] w fun e w' => ∃ g cap, e = .returned (.slice (some ⟨g, 0, none⟩) (2 * n) cap) ∧ Mx w' w.heap.size g cap (2 * n) (linesV l l.length) ∧ Below w.heap.size w w' := by
 have hu24 := Try.underlying24
 have HL := Aside0.mk hl
 have HR := Aside0.mk hr
 clear hl hr
 go_enter Try.func102, Try.ntmps102
 go_wp2_with fail
 go_loopw [5, 6] (fun v5 v6 wr => ∃ i : Nat, v6 = .int .i64 (i : Nat) ∧ i ≤ 2 * n ∧ Aside0 (Kd.S (Kd.slice 3 (Kd.int .i64)) 46 wr w.heap.size (fun _ => True) v5 ((List.range i).map (fun p => rowOf (2 * n) b0V p))) ∧ Aside0 (Below w.heap.size w wr)) (fun _ v _ => 2 * n - (intOf v).toNat)
 case atStart => exact ⟨0, rfl, by omega, ⟨Kd.S_nil _ _ _ _ _⟩, ⟨Below.refl _ _⟩⟩
 case round =>
  obtain ⟨i, rfl, hi, HS, HB⟩ := hrel
  by_cases hi2 : i < 2 * n
  · have hd : decide ((i : Int) < 2 * (n : Int)) = true := decide_eq_true (by omega)
    go_wp2_with fail
    go_loopw [7, 8] (fun v7 v8 wr => ∃ k : Nat, v8 = .int .i64 (k : Nat) ∧ k ≤ 2 * n ∧ Aside0 (Kd.S (Kd.slice 3 (Kd.int .i64)) 46 wr w.heap.size (fun k_ => some k_ ≠ (v7 : Value).ownBlock) u5 ((List.range i).map (fun p => rowOf (2 * n) b0V p))) ∧ Aside0 (Kd.R (Kd.int .i64) 3 wr w.heap.size (fun _ => True) v7 ((List.range k).map (fun q => b0V i q))) ∧ Aside0 (Below w.heap.size w wr)) (fun _ v _ => 2 * n - (intOf v).toNat)
    case atStart => exact ⟨0, rfl, by omega, ⟨Kd.S_mono HS.out (fun _ hk => by simp [Value.ownBlock])⟩, ⟨Kd.R_nil _ _ _ _ _⟩, HB⟩
    case round =>
     clear HS HB
     obtain ⟨k, rfl, hk, HS, HO, HB⟩ := hrel
     by_cases hk2 : k < 2 * n
     · have hd2 : decide ((k : Int) < 2 * (n : Int)) = true := decide_eq_true (by omega)
       have hlen : ((List.range k).map (fun q => b0V i q)).length = k := by simp
       obtain ⟨x7, hx7⟩ : ∃ x, x = (List.range k).map (fun q => b0V i q) := ⟨_, rfl⟩
       rw [← hx7] at HO hlen
       by_cases hik : i = k
       · have hb : ((i : Int) == (k : Int)) = true := beq_iff_eq.mpr (by omega)
         have hsn : x7 ++ [0] = (List.range (k + 1)).map (fun q => b0V i q) := by rw [hx7, ← row_snoc]; congr 2; unfold b0V; rw [if_pos hik]
         have HSN := Aside0.mk hsn
         clear hsn hik hx7
         go_wp2_with (first | ((with_reducible refine gate_builtin (b := .append) (xs := #[.tmp 28, .tmp 29]) rfl ?_); at_builtin; refine Kd.R_append (Kd.int .i64) (w0 := w) w.heap.size rfl (.tmp 28) (.tmp 29) 46 3 (.int .i64 0) 8 rfl Try.underlying46 info3 rfl (by decide) (by omega) u7 x7 0 [.int .i64 0] (fun _ => True) (fun _ => False) rfl rfl ?aP (fun _ hk => hk.elim) ?aF ?aO ?aB ?aS ?aL ?_; (case aP => exact rfl); (case aB => exact (by repeat (first | (with_reducible first | exact HB.out | apply below_alloc | apply pw_below_drewN | apply below_drew1) | exact HB.out))); (case aF => exact (fun _ _ => trivial)); (case aO => exact (by (with_reducible repeat (first | apply Kd.R_alloc | apply Kd.R_drewN | apply Kd.R_drew)); exact HO.out)); (case aS => exact (below_size (by repeat (first | (with_reducible first | exact HB.out | apply below_alloc | apply pw_below_drewN | apply below_drew1) | exact HB.out)))); (case aL => omega); intro v217 w7 ho hb hg hat; rw [HSN.out] at ho; have n0_ := Aside0.mk (Kd.S_after (ok := (fun _ => True)) (by (with_reducible repeat (first | apply Kd.S_alloc | apply Kd.S_drewN | apply Kd.S_drew)); exact Kd.S_mono HS.out (fun _ hk => ⟨trivial, hk⟩)) hg hat); have HB2 := Aside0.mk hb; have HO2 := Aside0.mk ho; clear ho hb hg hat))
         go_roundw
         case rel => exact ⟨k + 1, by go_num, by omega, ⟨Kd.S_mono n0_.out (fun _ hk => hk.2)⟩, HO2, HB2⟩
         case measure => simp [intOf]; omega
       · have hb : ((i : Int) == (k : Int)) = false := beq_eq_false_iff_ne.mpr (by omega)
         have hsn : x7 ++ [1125899906842624] = (List.range (k + 1)).map (fun q => b0V i q) := by rw [hx7, ← row_snoc]; congr 2; unfold b0V; rw [if_neg hik]; rfl
         have HSN := Aside0.mk hsn
         clear hsn hik hx7
         go_wp2_with (first | ((with_reducible refine gate_builtin (b := .append) (xs := #[.tmp 31, .tmp 32]) rfl ?_); at_builtin; refine Kd.R_append (Kd.int .i64) (w0 := w) w.heap.size rfl (.tmp 31) (.tmp 32) 46 3 (.int .i64 0) 8 rfl Try.underlying46 info3 rfl (by decide) (by omega) u7 x7 1125899906842624 [.int .i64 1125899906842624] (fun _ => True) (fun _ => False) rfl rfl ?aP (fun _ hk => hk.elim) ?aF ?aO ?aB ?aS ?aL ?_; (case aP => exact rfl); (case aB => exact (by repeat (first | (with_reducible first | exact HB.out | apply below_alloc | apply pw_below_drewN | apply below_drew1) | exact HB.out))); (case aF => exact (fun _ _ => trivial)); (case aO => exact (by (with_reducible repeat (first | apply Kd.R_alloc | apply Kd.R_drewN | apply Kd.R_drew)); exact HO.out)); (case aS => exact (below_size (by repeat (first | (with_reducible first | exact HB.out | apply below_alloc | apply pw_below_drewN | apply below_drew1) | exact HB.out)))); (case aL => omega); intro v217 w7 ho hb hg hat; rw [HSN.out] at ho; have n0_ := Aside0.mk (Kd.S_after (ok := (fun _ => True)) (by (with_reducible repeat (first | apply Kd.S_alloc | apply Kd.S_drewN | apply Kd.S_drew)); exact Kd.S_mono HS.out (fun _ hk => ⟨trivial, hk⟩)) hg hat); have HB2 := Aside0.mk hb; have HO2 := Aside0.mk ho; clear ho hb hg hat))
         go_roundw
         case rel => exact ⟨k + 1, by go_num, by omega, ⟨Kd.S_mono n0_.out (fun _ hk => hk.2)⟩, HO2, HB2⟩
         case measure => simp [intOf]; omega
     · obtain rfl : k = 2 * n := by omega
       have hd2 : decide (((2 * n : Nat) : Int) < 2 * (n : Int)) = false := decide_eq_false (by omega)
       obtain ⟨x7, hx7⟩ : ∃ x, x = rowOf (2 * n) b0V i := ⟨_, rfl⟩
       obtain ⟨x5, hx5⟩ : ∃ x, x = (List.range i).map (fun p => rowOf (2 * n) b0V p) := ⟨_, rfl⟩
       replace HO : Aside0 (Kd.R (Kd.int .i64) 3 wr w.heap.size (fun _ => True) u7 x7) := by rw [hx7]; exact HO
       rw [← hx5] at HS
       have hsn : x5 ++ [x7] = (List.range (i + 1)).map (fun p => rowOf (2 * n) b0V p) := by rw [hx5, hx7, rows_snoc]
       have hl5 : x5.length = i := by rw [hx5]; simp
       have HSN := Aside0.mk hsn
       clear hsn hx5 hx7
       obtain ⟨Ao, co, eo⟩ := Kd.R_slice HO.out
       subst eo
       go_wp2_with (first | ((with_reducible refine gate_builtin (b := .append) (xs := #[.tmp 34, .tmp 36]) rfl ?_); at_builtin; refine Kd.S_append (Kd.slice 3 (Kd.int .i64)) (w0 := w) w.heap.size rfl (.tmp 34) (.tmp 36) 108 46 (.slice none 0 0) 24 rfl Try.underlying108 info46 rfl (by decide) (by omega) u5 x5 x7 [.slice Ao x7.length co] (fun _ => True) (fun k_ => some k_ = (.slice Ao x7.length co : Value).ownBlock) rfl rfl ?aP (fun k_ hk_ => ((Kd.R_mono (ok' := fun k_ => ((fun _ => True)) k_ ∧ some k_ ≠ (u5 : Value).ownBlock) (Kd.R_apart' (HO.out) (Kd.S_typed HS.out) (by decide)) (fun k_ hk => ⟨trivial, hk.2⟩))).1 k_ hk_.symm) ?aF ?aO ?aB ?aS ?aL ?_; (case aP => exact Kd.M_row (Kd.R_mono (Kd.R_tight rfl (Kd.R_mono (ok' := fun k_ => ((fun _ => True)) k_ ∧ some k_ ≠ (u5 : Value).ownBlock) (Kd.R_apart' (HO.out) (Kd.S_typed HS.out) (by decide)) (fun k_ hk => ⟨trivial, hk.2⟩))) (fun _ h_ => h_))); (case aB => exact (by repeat (first | (with_reducible first | exact HB.out | apply below_alloc | apply pw_below_drewN | apply below_drew1) | exact HB.out))); (case aF => exact (fun _ _ => trivial)); (case aO => exact (by (with_reducible repeat (first | apply Kd.S_alloc | apply Kd.S_drewN | apply Kd.S_drew)); exact Kd.S_mono HS.out (fun k_ hk => ⟨trivial, fun e_ => hk e_⟩))); (case aS => exact (below_size (by repeat (first | (with_reducible first | exact HB.out | apply below_alloc | apply pw_below_drewN | apply below_drew1) | exact HB.out)))); (case aL => omega); intro v223 w11 ho hb hg hat; rw [HSN.out] at ho; have HB2 := Aside0.mk hb; have HS2 := Aside0.mk ho; clear ho hb hg hat))
       go_roundw
       case rel => exact ⟨i + 1, by go_num, by omega, HS2, HB2⟩
       case measure => simp [intOf]; omega
  · obtain rfl : i = 2 * n := by omega
    have hd : decide (((2 * n : Nat) : Int) < 2 * (n : Int)) = false := decide_eq_false (by omega)
    obtain ⟨g, cap, rfl, hg0, hg1, _⟩ := Kd.S_form HS.out (by simp; omega)
    have hlen : ((List.range (2 * n)).map (fun p => rowOf (2 * n) b0V p)).length = 2 * n := by simp
    rw [hlen] at HS ⊢
    have HM : Aside0 (Mx wr w.heap.size g cap (2 * n) (linesV l 0)) := ⟨HS.out⟩
    clear HS hlen
    go_wp2_with fail
    obtain ⟨wo, hwo⟩ : ∃ wo : World, wo = wr := ⟨_, rfl⟩
    clear hwo
    go_loopw [9] (fun v9 wr => ∃ i : Nat, v9 = .int .i64 (i : Nat) ∧ i ≤ l.length ∧ Aside0 (Mx wr w.heap.size g cap (2 * n) (linesV l i)) ∧ Aside0 (Below w.heap.size w wr)) (fun v _ => l.length - (intOf v).toNat)
    case atStart => exact ⟨0, rfl, by omega, HM, HB⟩
    case round =>
     clear HM HB
     obtain ⟨i, rfl, hi, HM, HB⟩ := hrel
     by_cases hil : i < l.length
     · have hx : (i : Int) < (l.length : Int) := by omega
       have hd : decide ((i : Int) < (l.length : Int)) = true := decide_eq_true hx
       obtain ⟨ad, e, hx0, hx1, hx2, hx3, hx4⟩ := at_T24 HL.out (i : Nat) (by omega) hx
       cases e
       replace hx0 := pw_cell_below HB.out hx0
       replace hx1 := pw_cell_below HB.out hx1
       replace hx2 := pw_cell_below HB.out hx2
       replace hx3 := pw_cell_below HB.out hx3
       replace hx4 := pw_cell_below HB.out hx4
       rw [Int.toNat_natCast] at hx0 hx1 hx2 hx3 hx4
       have hmem : rd_T24 l (i : Nat) ∈ l := by
        unfold rd_T24; rw [Int.toNat_natCast, List.getD_eq_getElem?_getD, List.getElem?_eq_getElem hil]; exact List.getElem_mem _
       have hstep : linesV l (i + 1) = lineV (linesV l i) (rd_T24 l (i : Nat)) := by
        show lineV (linesV l i) (l.getD i z24) = _
        unfold rd_T24; rw [Int.toNat_natCast]
       have r := HR.out _ hmem
       have HST := Aside0.mk hstep
       obtain ⟨m, hm⟩ : ∃ m, m = linesV l i := ⟨_, rfl⟩
       rw [← hm] at HM HST
       generalize rd_T24 l (i : Nat) = x at *
       obtain ⟨a0, a1⟩ : 0 ≤ x.f0 ∧ x.f0 < n := ⟨r.a0, r.a1⟩
       have ps := r.p
       have m0 := r.m0
       have m1 := r.m1
       have ha := endN_lt (s := x.f1) a0 a1
       clear hmem hstep hm
       go_upto_region 16 with (fail)
       go_cut [10] (fun v10 wc => v10 = .int .i64 (endN x.f0 x.f1 : Nat) ∧ Aside0 (Below wr.heap.size wr wc))
       case first =>
        go_region_held3 (fun w' => w'.cell? (ad.add (i * 5)) = some (.int .i64 x.f0) ∧ w'.cell? ⟨(ad.add (i * 5)).block, (ad.add (i * 5)).off + 1, none⟩ = some (.int .i64 x.f1)) (go_keep) ((go_at_call 105; refine (node_same x.f0 x.f1 _ a0 (by omega) ps).mono ?_; rintro e w7 ⟨rfl, rfl⟩))
        all_goals (go_wp2_with fail; go_meet)
        all_goals exact ⟨rfl, ⟨(Below.refl _ _).drew⟩⟩
       case rest =>
        obtain ⟨rfl, HB1⟩ := hcut
        replace hx0 := pw_cell_below HB1.out hx0
        replace hx1 := pw_cell_below HB1.out hx1
        replace hx2 := pw_cell_below HB1.out hx2
        replace hx3 := pw_cell_below HB1.out hx3
        replace hx4 := pw_cell_below HB1.out hx4
        replace HM : Aside0 (Mx wc w.heap.size g cap (2 * n) m) := ⟨HM.out.below HB1.out⟩
        replace HB : Aside0 (Below w.heap.size w wc) := ⟨below_step HB.out HB1.out⟩
        clear HB1
        by_cases hq : x.f3 = 0
        · have hqb : (x.f3 != 0) = false := by rw [hq]; rfl
          have hlv : linesV l (i + 1) = Vm.set (Vm.set m (oth (endN x.f0 x.f1)) (endN x.f0 x.f1) (min (m (oth (endN x.f0 x.f1)) (endN x.f0 x.f1)) (2 * x.f4))) (oth (endN x.f0 x.f1)) (endN x.f0 x.f1) (min ((Vm.set m (oth (endN x.f0 x.f1)) (endN x.f0 x.f1) (min (m (oth (endN x.f0 x.f1)) (endN x.f0 x.f1)) (2 * x.f4))) (oth (endN x.f0 x.f1)) (endN x.f0 x.f1)) (2 * x.f4)) := by rw [HST.out]; unfold lineV; simp only [if_pos hq]
          have HLV := Aside0.mk hlv
          clear hlv HST
          obtain ⟨wk, hwk⟩ : ∃ x, x = wc := ⟨_, rfl⟩
          subst hwk
          go_upto_region 22 with (fail)
          generalize endN x.f0 x.f1 = a at *
          have hb := ha
          have hoa : oth a < 2 * n := oth_lt ha
          have hob : oth a < 2 * n := oth_lt hb
          obtain ⟨gi, ci, hc0, hcs, hput⟩ := HM.out.row (i := oth a) hob
          obtain ⟨hc1, hf1⟩ := hcs a ha
          obtain ⟨hm2, hg2, hb2⟩ := hput a (min (m (oth a) a) (2 * x.f4)) ha
          have HP := Aside0.mk hm2
          have HG := Aside0.mk (Mx.below0 HB.out hg2 hb2)
          clear hcs hput hm2 hg2 hb2
          have z1 : ((oth a : Nat) : Int) < ((2 * n : Nat) : Int) := by omega
          have z2 : ((a : Nat) : Int) < ((2 * n : Nat) : Int) := by omega
          have z3 : ((oth a : Nat) : Int) < ((2 * n : Nat) : Int) := by omega
          have z4 : ((a : Nat) : Int) < ((2 * n : Nat) : Int) := by omega
          have z5 : ((oth a : Nat) : Int) < 2 * (n : Int) := by omega
          have z6 : ((a : Nat) : Int) < 2 * (n : Int) := by omega
          have z7 : ((oth a : Nat) : Int) < 2 * (n : Int) := by omega
          have z8 : ((a : Nat) : Int) < 2 * (n : Int) := by omega
          go_cut [99] (fun v99 wd => Aside0 (Mx wd w.heap.size g cap (2 * n) (Vm.set m (oth a) a (min (m (oth a) a) (2 * x.f4)))) ∧ Aside0 (Below w.heap.size w wd))
          case first =>
           refine start_ (n := 18) (S := fun w' => Aside0 (w' = wk.drew) ∧ w'.cell? ⟨g, oth a, none⟩ = some (.slice (some ⟨gi, 0, none⟩) (2 * n) ci) ∧ w'.cell? ⟨gi, a, none⟩ = some (.int .i64 (m (oth a) a)) ∧ w'.frozen? ⟨gi, a, none⟩ = false) (ds := [17]) #[ff,ff,ff,ff,ff,ff,ff,ff,ff,ff,ff,ff,ff,ff,ff,ff,ff,ff] (by kernel_rfl) rfl rfl ⟨⟨rfl⟩, hc0, hc1, hf1⟩ (fun hHeld => ?_)
           refine pure_ (i := 0) (N := some 84) (v := ?_) (a' := ?_) #[tt,ff,ff,ff,ff,ff,ff,ff,ff,ff,ff,ff,ff,ff,ff,ff,ff,ff] rfl rfl (by kernel_rfl) (fun _ _ _ h => h) (Or.inl ⟨by rfl, ?_⟩) ?_ ?_
           rotate_left
           · intro w'
             go_simp
             with_reducible rfl
           rotate_left
           · simp only [Act.put, List.setIfInBounds_toArray, List.set_cons_zero, List.set_cons_succ, i64_w, i32_w]
             rfl
           refine pure_ (i := 1) (N := some 85) (v := ?_) (a' := ?_) #[tt,tt,ff,ff,ff,ff,ff,ff,ff,ff,ff,ff,ff,ff,ff,ff,ff,ff] rfl rfl (by kernel_rfl) (fun _ _ _ h => h) (Or.inl ⟨by rfl, ?_⟩) ?_ ?_
           rotate_left
           · intro w'
             go_simp
             with_reducible rfl
           rotate_left
           · simp only [Act.put, List.setIfInBounds_toArray, List.set_cons_zero, List.set_cons_succ, i64_w, i32_w]
             rfl
           refine pure_ (i := 5) (N := some 89) (v := ?_) (a' := ?_) #[tt,tt,ff,ff,ff,tt,ff,ff,ff,ff,ff,ff,ff,ff,ff,ff,ff,ff] rfl rfl (by kernel_rfl) (fun _ _ _ h => h) (Or.inl ⟨by rfl, ?_⟩) ?_ ?_
           rotate_left
           · intro w'
             go_simp
             with_reducible rfl
           rotate_left
           · simp only [Act.put, List.setIfInBounds_toArray, List.set_cons_zero, List.set_cons_succ, i64_w, i32_w]
             rfl
           refine pure_ (i := 6) (N := some 90) (v := ?_) (a' := ?_) #[tt,tt,ff,ff,ff,tt,tt,ff,ff,ff,ff,ff,ff,ff,ff,ff,ff,ff] rfl rfl (by kernel_rfl) (fun _ _ _ h => h) (Or.inl ⟨by rfl, ?_⟩) ?_ ?_
           rotate_left
           · intro w'
             go_simp
             with_reducible rfl
           rotate_left
           · simp only [Act.put, List.setIfInBounds_toArray, List.set_cons_zero, List.set_cons_succ, i64_w, i32_w]
             rfl
           refine pure_ (i := 7) (N := some 91) (v := ?_) (a' := ?_) #[tt,tt,ff,ff,ff,tt,tt,tt,ff,ff,ff,ff,ff,ff,ff,ff,ff,ff] rfl rfl (by kernel_rfl) (fun _ _ _ h => h) (Or.inl ⟨by rfl, ?_⟩) ?_ ?_
           rotate_left
           · intro w'
             go_simp
             with_reducible rfl
           rotate_left
           · simp only [Act.put, List.setIfInBounds_toArray, List.set_cons_zero, List.set_cons_succ, i64_w, i32_w]
             rfl
           refine pure_ (i := 11) (N := some 95) (v := ?_) (a' := ?_) #[tt,tt,ff,ff,ff,tt,tt,tt,ff,ff,ff,tt,ff,ff,ff,ff,ff,ff] rfl rfl (by kernel_rfl) (fun _ _ _ h => h) (Or.inl ⟨by rfl, ?_⟩) ?_ ?_
           rotate_left
           · intro w'
             go_simp
             with_reducible rfl
           rotate_left
           · simp only [Act.put, List.setIfInBounds_toArray, List.set_cons_zero, List.set_cons_succ, i64_w, i32_w]
             rfl
           refine pure_ (i := 14) (N := some 98) (v := ?_) (a' := ?_) #[tt,tt,ff,ff,ff,tt,tt,tt,ff,ff,ff,tt,ff,ff,tt,ff,ff,ff] rfl rfl (by kernel_rfl) (fun _ _ _ h => h) (Or.inl ⟨by rfl, ?_⟩) ?_ ?_
           rotate_left
           · intro w'
             go_simp
             with_reducible rfl
           rotate_left
           · simp only [Act.put, List.setIfInBounds_toArray, List.set_cons_zero, List.set_cons_succ, i64_w, i32_w]
             rfl
           refine one_ (i := 2) (N := some 86) #[tt,tt,tt,ff,ff,tt,tt,tt,ff,ff,ff,tt,ff,ff,tt,ff,ff,ff] rfl rfl (by kernel_rfl) (by decide) (fun K hK => ?_)
           refine goes_ Try.func103 (by kernel_rfl) rfl #[.int .i64 ((a : Nat) : Int)] (by rfl) rfl rfl (by simp only [List.map_toArray, List.map_cons, List.map_nil]; rfl) ?_
           with_reducible refine (oth_same a _ (by omega)).mono ?_
           rintro e w7 ⟨rfl, rfl⟩
           refine ⟨_, rfl, ?_⟩
           refine hK.out _ _ ⟨hHeld.1, hHeld.2.1, hHeld.2.2.1, hHeld.2.2.2⟩ (fun hHeld => ?_)
           clear hK K
           refine norm_ (a' := ?_) ?_ ?_
           rotate_left
           · show Act.put _ (some 86) _ = _
             simp only [Act.put, List.setIfInBounds_toArray, List.set_cons_zero, List.set_cons_succ, i64_w, i32_w]
             rfl
           refine pure_ (i := 3) (N := some 87) (v := ?_) (a' := ?_) #[tt,tt,tt,tt,ff,tt,tt,tt,ff,ff,ff,tt,ff,ff,tt,ff,ff,ff] rfl rfl (by kernel_rfl) (fun _ _ _ h => h) (Or.inl ⟨by rfl, ?_⟩) ?_ ?_
           rotate_left
           · intro w'
             go_simp
             with_reducible rfl
           rotate_left
           · simp only [Act.put, List.setIfInBounds_toArray, List.set_cons_zero, List.set_cons_succ, i64_w, i32_w]
             rfl
           refine take_ (i := 4) (N := some 88) (v := ?_) (a' := ?_) #[tt,tt,tt,tt,tt,tt,tt,tt,ff,ff,ff,tt,ff,ff,tt,ff,ff,ff] rfl rfl (by kernel_rfl) (fun _ _ _ h => h) (Or.inl ⟨by rfl, ?_⟩) hHeld ?_ ?_
           rotate_left
           · rintro w' ⟨s0, s1, s2, s3⟩
             go_simp
             with_reducible rfl
           rotate_left
           · simp only [Act.put, List.setIfInBounds_toArray, List.set_cons_zero, List.set_cons_succ, i64_w, i32_w]
             rfl
           refine one_ (i := 8) (N := some 92) #[tt,tt,tt,tt,tt,tt,tt,tt,tt,ff,ff,tt,ff,ff,tt,ff,ff,ff] rfl rfl (by kernel_rfl) (by decide) (fun K hK => ?_)
           refine goes_ Try.func103 (by kernel_rfl) rfl #[.int .i64 ((a : Nat) : Int)] (by rfl) rfl rfl (by simp only [List.map_toArray, List.map_cons, List.map_nil]; rfl) ?_
           with_reducible refine (oth_same a _ (by omega)).mono ?_
           rintro e w7 ⟨rfl, rfl⟩
           refine ⟨_, rfl, ?_⟩
           refine hK.out _ _ ⟨hHeld.1, hHeld.2.1, hHeld.2.2.1, hHeld.2.2.2⟩ (fun hHeld => ?_)
           clear hK K
           refine norm_ (a' := ?_) ?_ ?_
           rotate_left
           · show Act.put _ (some 92) _ = _
             simp only [Act.put, List.setIfInBounds_toArray, List.set_cons_zero, List.set_cons_succ, i64_w, i32_w]
             rfl
           refine pure_ (i := 9) (N := some 93) (v := ?_) (a' := ?_) #[tt,tt,tt,tt,tt,tt,tt,tt,tt,tt,ff,tt,ff,ff,tt,ff,ff,ff] rfl rfl (by kernel_rfl) (fun _ _ _ h => h) (Or.inl ⟨by rfl, ?_⟩) ?_ ?_
           rotate_left
           · intro w'
             go_simp
             with_reducible rfl
           rotate_left
           · simp only [Act.put, List.setIfInBounds_toArray, List.set_cons_zero, List.set_cons_succ, i64_w, i32_w]
             rfl
           refine take_ (i := 10) (N := some 94) (v := ?_) (a' := ?_) #[tt,tt,tt,tt,tt,tt,tt,tt,tt,tt,tt,tt,ff,ff,tt,ff,ff,ff] rfl rfl (by kernel_rfl) (fun _ _ _ h => h) (Or.inl ⟨by rfl, ?_⟩) hHeld ?_ ?_
           rotate_left
           · rintro w' ⟨s0, s1, s2, s3⟩
             go_simp
             with_reducible rfl
           rotate_left
           · simp only [Act.put, List.setIfInBounds_toArray, List.set_cons_zero, List.set_cons_succ, i64_w, i32_w]
             rfl
           refine pure_ (i := 12) (N := some 96) (v := ?_) (a' := ?_) #[tt,tt,tt,tt,tt,tt,tt,tt,tt,tt,tt,tt,tt,ff,tt,ff,ff,ff] rfl rfl (by kernel_rfl) (fun _ _ _ h => h) (Or.inl ⟨by rfl, ?_⟩) ?_ ?_
           rotate_left
           · intro w'
             go_simp
             with_reducible rfl
           rotate_left
           · simp only [Act.put, List.setIfInBounds_toArray, List.set_cons_zero, List.set_cons_succ, i64_w, i32_w]
             rfl
           refine take_ (i := 13) (N := some 97) (v := ?_) (a' := ?_) #[tt,tt,tt,tt,tt,tt,tt,tt,tt,tt,tt,tt,tt,tt,tt,ff,ff,ff] rfl rfl (by kernel_rfl) (fun _ _ _ h => h) (Or.inl ⟨by rfl, ?_⟩) hHeld ?_ ?_
           rotate_left
           · rintro w' ⟨s0, s1, s2, s3⟩
             go_simp
             with_reducible rfl
           rotate_left
           · simp only [Act.put, List.setIfInBounds_toArray, List.set_cons_zero, List.set_cons_succ, i64_w, i32_w]
             rfl
           refine pure_ (i := 15) (N := some 99) (v := ?_) (a' := ?_) #[tt,tt,tt,tt,tt,tt,tt,tt,tt,tt,tt,tt,tt,tt,tt,tt,ff,ff] rfl rfl (by kernel_rfl) (fun _ _ _ h => h) (Or.inl ⟨by rfl, ?_⟩) ?_ ?_
           rotate_left
           · intro w'
             go_simp
             with_reducible rfl
           rotate_left
           · simp only [Act.put, List.setIfInBounds_toArray, List.set_cons_zero, List.set_cons_succ, i64_w, i32_w]
             rfl
           refine pure_ (i := 16) (N := some 100) (v := ?_) (a' := ?_) #[tt,tt,tt,tt,tt,tt,tt,tt,tt,tt,tt,tt,tt,tt,tt,tt,tt,ff] rfl rfl (by kernel_rfl) (fun _ _ _ h => h) (Or.inl ⟨by rfl, ?_⟩) ?_ ?_
           rotate_left
           · intro w'
             go_simp
             with_reducible rfl
           rotate_left
           · simp only [Act.put, List.setIfInBounds_toArray, List.set_cons_zero, List.set_cons_succ, i64_w, i32_w]
             rfl
           refine last_ (i := 17) (N := none) #[tt,tt,tt,tt,tt,tt,tt,tt,tt,tt,tt,tt,tt,tt,tt,tt,tt,tt] rfl rfl (by kernel_rfl) (by decide) (fun K hK => ?_)
           refine skip_ (w1 := ?_) (by rfl) rfl ?_ ?_
           rotate_left
           · go_simp
             rfl
           refine hK.out _ _ ?_
           clear hK K
           refine done_ (by kernel_rfl) ?_
           all_goals go_wp2_with fail
           all_goals go_meet
           all_goals first | ((have e : min (m (oth a) a) (2 * x.f4) = (2 * x.f4) := by omega); rw [e] at HP HG ⊢; exact ⟨⟨HP.out.below (Below.refl _ _).drew⟩, ⟨below_step HG.out (Below.refl _ _).drew⟩⟩) | ((have e : min (m (oth a) a) (2 * x.f4) = m (oth a) a := by omega); rw [e] at HP HG ⊢; exact ⟨⟨HP.out.below (Below.refl _ _).drew⟩, ⟨below_step HG.out (Below.refl _ _).drew⟩⟩)
          case rest =>
           obtain ⟨wd, hwd⟩ : ∃ x, x = wc := ⟨_, rfl⟩
           subst hwd
           obtain ⟨HM2, HB2⟩ := hcut
           clear hc0 hc1 hf1 HP HG
           obtain ⟨m2, hm2⟩ : ∃ m2, m2 = (Vm.set m (oth a) a (min (m (oth a) a) (2 * x.f4))) := ⟨_, rfl⟩
           rw [← hm2] at HM2 HLV
           clear hm2
           obtain ⟨gj, cj, hc0, hcs, hput⟩ := HM2.out.row (i := oth a) hoa
           obtain ⟨hc1, hf1⟩ := hcs a hb
           obtain ⟨hm2, hg2, hb2⟩ := hput a (min (m2 (oth a) a) (2 * x.f4)) hb
           have HP := Aside0.mk hm2
           have HG := Aside0.mk (Mx.below0 HB2.out hg2 hb2)
           clear hcs hput hm2 hg2 hb2
           go_upto_region 23 with (fail)
           refine start_ (n := 18) (S := fun w' => Aside0 (w' = wd.drew) ∧ w'.cell? ⟨g, oth a, none⟩ = some (.slice (some ⟨gj, 0, none⟩) (2 * n) cj) ∧ w'.cell? ⟨gj, a, none⟩ = some (.int .i64 (m2 (oth a) a)) ∧ w'.frozen? ⟨gj, a, none⟩ = false) (ds := [17]) #[ff,ff,ff,ff,ff,ff,ff,ff,ff,ff,ff,ff,ff,ff,ff,ff,ff,ff] (by kernel_rfl) rfl rfl ⟨⟨rfl⟩, hc0, hc1, hf1⟩ (fun hHeld => ?_)
           refine pure_ (i := 0) (N := some 101) (v := ?_) (a' := ?_) #[tt,ff,ff,ff,ff,ff,ff,ff,ff,ff,ff,ff,ff,ff,ff,ff,ff,ff] rfl rfl (by kernel_rfl) (fun _ _ _ h => h) (Or.inl ⟨by rfl, ?_⟩) ?_ ?_
           rotate_left
           · intro w'
             go_simp
             with_reducible rfl
           rotate_left
           · simp only [Act.put, List.setIfInBounds_toArray, List.set_cons_zero, List.set_cons_succ, i64_w, i32_w]
             rfl
           refine pure_ (i := 1) (N := some 102) (v := ?_) (a' := ?_) #[tt,tt,ff,ff,ff,ff,ff,ff,ff,ff,ff,ff,ff,ff,ff,ff,ff,ff] rfl rfl (by kernel_rfl) (fun _ _ _ h => h) (Or.inl ⟨by rfl, ?_⟩) ?_ ?_
           rotate_left
           · intro w'
             go_simp
             with_reducible rfl
           rotate_left
           · simp only [Act.put, List.setIfInBounds_toArray, List.set_cons_zero, List.set_cons_succ, i64_w, i32_w]
             rfl
           refine pure_ (i := 5) (N := some 106) (v := ?_) (a' := ?_) #[tt,tt,ff,ff,ff,tt,ff,ff,ff,ff,ff,ff,ff,ff,ff,ff,ff,ff] rfl rfl (by kernel_rfl) (fun _ _ _ h => h) (Or.inl ⟨by rfl, ?_⟩) ?_ ?_
           rotate_left
           · intro w'
             go_simp
             with_reducible rfl
           rotate_left
           · simp only [Act.put, List.setIfInBounds_toArray, List.set_cons_zero, List.set_cons_succ, i64_w, i32_w]
             rfl
           refine pure_ (i := 6) (N := some 107) (v := ?_) (a' := ?_) #[tt,tt,ff,ff,ff,tt,tt,ff,ff,ff,ff,ff,ff,ff,ff,ff,ff,ff] rfl rfl (by kernel_rfl) (fun _ _ _ h => h) (Or.inl ⟨by rfl, ?_⟩) ?_ ?_
           rotate_left
           · intro w'
             go_simp
             with_reducible rfl
           rotate_left
           · simp only [Act.put, List.setIfInBounds_toArray, List.set_cons_zero, List.set_cons_succ, i64_w, i32_w]
             rfl
           refine pure_ (i := 7) (N := some 108) (v := ?_) (a' := ?_) #[tt,tt,ff,ff,ff,tt,tt,tt,ff,ff,ff,ff,ff,ff,ff,ff,ff,ff] rfl rfl (by kernel_rfl) (fun _ _ _ h => h) (Or.inl ⟨by rfl, ?_⟩) ?_ ?_
           rotate_left
           · intro w'
             go_simp
             with_reducible rfl
           rotate_left
           · simp only [Act.put, List.setIfInBounds_toArray, List.set_cons_zero, List.set_cons_succ, i64_w, i32_w]
             rfl
           refine pure_ (i := 11) (N := some 112) (v := ?_) (a' := ?_) #[tt,tt,ff,ff,ff,tt,tt,tt,ff,ff,ff,tt,ff,ff,ff,ff,ff,ff] rfl rfl (by kernel_rfl) (fun _ _ _ h => h) (Or.inl ⟨by rfl, ?_⟩) ?_ ?_
           rotate_left
           · intro w'
             go_simp
             with_reducible rfl
           rotate_left
           · simp only [Act.put, List.setIfInBounds_toArray, List.set_cons_zero, List.set_cons_succ, i64_w, i32_w]
             rfl
           refine pure_ (i := 14) (N := some 115) (v := ?_) (a' := ?_) #[tt,tt,ff,ff,ff,tt,tt,tt,ff,ff,ff,tt,ff,ff,tt,ff,ff,ff] rfl rfl (by kernel_rfl) (fun _ _ _ h => h) (Or.inl ⟨by rfl, ?_⟩) ?_ ?_
           rotate_left
           · intro w'
             go_simp
             with_reducible rfl
           rotate_left
           · simp only [Act.put, List.setIfInBounds_toArray, List.set_cons_zero, List.set_cons_succ, i64_w, i32_w]
             rfl
           refine one_ (i := 2) (N := some 103) #[tt,tt,tt,ff,ff,tt,tt,tt,ff,ff,ff,tt,ff,ff,tt,ff,ff,ff] rfl rfl (by kernel_rfl) (by decide) (fun K hK => ?_)
           refine goes_ Try.func103 (by kernel_rfl) rfl #[.int .i64 ((a : Nat) : Int)] (by rfl) rfl rfl (by simp only [List.map_toArray, List.map_cons, List.map_nil]; rfl) ?_
           with_reducible refine (oth_same a _ (by omega)).mono ?_
           rintro e w7 ⟨rfl, rfl⟩
           refine ⟨_, rfl, ?_⟩
           refine hK.out _ _ ⟨hHeld.1, hHeld.2.1, hHeld.2.2.1, hHeld.2.2.2⟩ (fun hHeld => ?_)
           clear hK K
           refine norm_ (a' := ?_) ?_ ?_
           rotate_left
           · show Act.put _ (some 103) _ = _
             simp only [Act.put, List.setIfInBounds_toArray, List.set_cons_zero, List.set_cons_succ, i64_w, i32_w]
             rfl
           refine pure_ (i := 3) (N := some 104) (v := ?_) (a' := ?_) #[tt,tt,tt,tt,ff,tt,tt,tt,ff,ff,ff,tt,ff,ff,tt,ff,ff,ff] rfl rfl (by kernel_rfl) (fun _ _ _ h => h) (Or.inl ⟨by rfl, ?_⟩) ?_ ?_
           rotate_left
           · intro w'
             go_simp
             with_reducible rfl
           rotate_left
           · simp only [Act.put, List.setIfInBounds_toArray, List.set_cons_zero, List.set_cons_succ, i64_w, i32_w]
             rfl
           refine take_ (i := 4) (N := some 105) (v := ?_) (a' := ?_) #[tt,tt,tt,tt,tt,tt,tt,tt,ff,ff,ff,tt,ff,ff,tt,ff,ff,ff] rfl rfl (by kernel_rfl) (fun _ _ _ h => h) (Or.inl ⟨by rfl, ?_⟩) hHeld ?_ ?_
           rotate_left
           · rintro w' ⟨s0, s1, s2, s3⟩
             go_simp
             with_reducible rfl
           rotate_left
           · simp only [Act.put, List.setIfInBounds_toArray, List.set_cons_zero, List.set_cons_succ, i64_w, i32_w]
             rfl
           refine one_ (i := 8) (N := some 109) #[tt,tt,tt,tt,tt,tt,tt,tt,tt,ff,ff,tt,ff,ff,tt,ff,ff,ff] rfl rfl (by kernel_rfl) (by decide) (fun K hK => ?_)
           refine goes_ Try.func103 (by kernel_rfl) rfl #[.int .i64 ((a : Nat) : Int)] (by rfl) rfl rfl (by simp only [List.map_toArray, List.map_cons, List.map_nil]; rfl) ?_
           with_reducible refine (oth_same a _ (by omega)).mono ?_
           rintro e w7 ⟨rfl, rfl⟩
           refine ⟨_, rfl, ?_⟩
           refine hK.out _ _ ⟨hHeld.1, hHeld.2.1, hHeld.2.2.1, hHeld.2.2.2⟩ (fun hHeld => ?_)
           clear hK K
           refine norm_ (a' := ?_) ?_ ?_
           rotate_left
           · show Act.put _ (some 109) _ = _
             simp only [Act.put, List.setIfInBounds_toArray, List.set_cons_zero, List.set_cons_succ, i64_w, i32_w]
             rfl
           refine pure_ (i := 9) (N := some 110) (v := ?_) (a' := ?_) #[tt,tt,tt,tt,tt,tt,tt,tt,tt,tt,ff,tt,ff,ff,tt,ff,ff,ff] rfl rfl (by kernel_rfl) (fun _ _ _ h => h) (Or.inl ⟨by rfl, ?_⟩) ?_ ?_
           rotate_left
           · intro w'
             go_simp
             with_reducible rfl
           rotate_left
           · simp only [Act.put, List.setIfInBounds_toArray, List.set_cons_zero, List.set_cons_succ, i64_w, i32_w]
             rfl
           refine take_ (i := 10) (N := some 111) (v := ?_) (a' := ?_) #[tt,tt,tt,tt,tt,tt,tt,tt,tt,tt,tt,tt,ff,ff,tt,ff,ff,ff] rfl rfl (by kernel_rfl) (fun _ _ _ h => h) (Or.inl ⟨by rfl, ?_⟩) hHeld ?_ ?_
           rotate_left
           · rintro w' ⟨s0, s1, s2, s3⟩
             go_simp
             with_reducible rfl
           rotate_left
           · simp only [Act.put, List.setIfInBounds_toArray, List.set_cons_zero, List.set_cons_succ, i64_w, i32_w]
             rfl
           refine pure_ (i := 12) (N := some 113) (v := ?_) (a' := ?_) #[tt,tt,tt,tt,tt,tt,tt,tt,tt,tt,tt,tt,tt,ff,tt,ff,ff,ff] rfl rfl (by kernel_rfl) (fun _ _ _ h => h) (Or.inl ⟨by rfl, ?_⟩) ?_ ?_
           rotate_left
           · intro w'
             go_simp
             with_reducible rfl
           rotate_left
           · simp only [Act.put, List.setIfInBounds_toArray, List.set_cons_zero, List.set_cons_succ, i64_w, i32_w]
             rfl
           refine take_ (i := 13) (N := some 114) (v := ?_) (a' := ?_) #[tt,tt,tt,tt,tt,tt,tt,tt,tt,tt,tt,tt,tt,tt,tt,ff,ff,ff] rfl rfl (by kernel_rfl) (fun _ _ _ h => h) (Or.inl ⟨by rfl, ?_⟩) hHeld ?_ ?_
           rotate_left
           · rintro w' ⟨s0, s1, s2, s3⟩
             go_simp
             with_reducible rfl
           rotate_left
           · simp only [Act.put, List.setIfInBounds_toArray, List.set_cons_zero, List.set_cons_succ, i64_w, i32_w]
             rfl
           refine pure_ (i := 15) (N := some 116) (v := ?_) (a' := ?_) #[tt,tt,tt,tt,tt,tt,tt,tt,tt,tt,tt,tt,tt,tt,tt,tt,ff,ff] rfl rfl (by kernel_rfl) (fun _ _ _ h => h) (Or.inl ⟨by rfl, ?_⟩) ?_ ?_
           rotate_left
           · intro w'
             go_simp
             with_reducible rfl
           rotate_left
           · simp only [Act.put, List.setIfInBounds_toArray, List.set_cons_zero, List.set_cons_succ, i64_w, i32_w]
             rfl
           refine pure_ (i := 16) (N := some 117) (v := ?_) (a' := ?_) #[tt,tt,tt,tt,tt,tt,tt,tt,tt,tt,tt,tt,tt,tt,tt,tt,tt,ff] rfl rfl (by kernel_rfl) (fun _ _ _ h => h) (Or.inl ⟨by rfl, ?_⟩) ?_ ?_
           rotate_left
           · intro w'
             go_simp
             with_reducible rfl
           rotate_left
           · simp only [Act.put, List.setIfInBounds_toArray, List.set_cons_zero, List.set_cons_succ, i64_w, i32_w]
             rfl
           refine last_ (i := 17) (N := none) #[tt,tt,tt,tt,tt,tt,tt,tt,tt,tt,tt,tt,tt,tt,tt,tt,tt,tt] rfl rfl (by kernel_rfl) (by decide) (fun K hK => ?_)
           refine skip_ (w1 := ?_) (by rfl) rfl ?_ ?_
           rotate_left
           · go_simp
             rfl
           refine hK.out _ _ ?_
           clear hK K
           refine done_ (by kernel_rfl) ?_
           all_goals go_wp2_with fail
           all_goals go_roundw
           all_goals first | (case measure => simp [intOf]; omega) | ((have e : (if (2 * x.f4) < m2 (oth a) a then (2 * x.f4) else m2 (oth a) a) = min (m2 (oth a) a) ((2 * x.f4)) := by split <;> omega); rw [e]; have hl := HLV.out; refine ⟨i + 1, by go_num, by omega, ⟨?_⟩, ⟨below_step HG.out (Below.refl _ _).drew⟩⟩; rw [hl]; exact HP.out.below (Below.refl _ _).drew) | ((have e : min (m2 (oth a) a) (2 * x.f4) = (2 * x.f4) := by omega); have hp := HP.out; have hg := HG.out; rw [e] at hp hg; have hl := HLV.out; rw [e] at hl; refine ⟨i + 1, by go_num, by omega, ⟨?_⟩, ⟨below_step hg (Below.refl _ _).drew⟩⟩; rw [hl]; exact hp.below (Below.refl _ _).drew) | ((have e : min (m2 (oth a) a) (2 * x.f4) = m2 (oth a) a := by omega); have hp := HP.out; have hg := HG.out; rw [e] at hp hg; have hl := HLV.out; rw [e] at hl; refine ⟨i + 1, by go_num, by omega, ⟨?_⟩, ⟨below_step hg (Below.refl _ _).drew⟩⟩; rw [hl]; exact hp.below (Below.refl _ _).drew)
        · have hqb : (x.f3 != 0) = true := bne_iff_ne.mpr hq
          have hbb : 0 ≤ x.f2 ∧ x.f2 < n := by rcases r.q with ⟨h, _⟩ | ⟨_, h⟩; exact (hq h).elim; exact ⟨h.1, h.2.1⟩
          obtain ⟨b0, b1⟩ := hbb
          have qs : x.f3 = 1 ∨ x.f3 = -1 := by rcases r.q with ⟨h, _⟩ | ⟨h, _⟩; exact (hq h).elim; exact h
          have hb := endN_lt (s := x.f3) b0 b1
          have hlv : linesV l (i + 1) = Vm.set (Vm.set m (oth (endN x.f2 x.f3)) (endN x.f0 x.f1) (min (m (oth (endN x.f2 x.f3)) (endN x.f0 x.f1)) x.f4)) (oth (endN x.f0 x.f1)) (endN x.f2 x.f3) (min ((Vm.set m (oth (endN x.f2 x.f3)) (endN x.f0 x.f1) (min (m (oth (endN x.f2 x.f3)) (endN x.f0 x.f1)) x.f4)) (oth (endN x.f0 x.f1)) (endN x.f2 x.f3)) x.f4) := by rw [HST.out]; unfold lineV; simp only [if_neg hq]
          have HLV := Aside0.mk hlv
          clear hlv HST
          obtain ⟨wk, hwk⟩ : ∃ x, x = wc := ⟨_, rfl⟩
          subst hwk
          go_upto_region 20 with (fail)
          go_cut [11] (fun v11 wf => v11 = .int .i64 (endN x.f2 x.f3 : Nat) ∧ Aside0 (Below wk.heap.size wk wf))
          case first =>
           go_region_held3 (fun w' => w'.cell? ⟨(ad.add (i * 5)).block, (ad.add (i * 5)).off + 2, none⟩ = some (.int .i64 x.f2) ∧ w'.cell? ⟨(ad.add (i * 5)).block, (ad.add (i * 5)).off + 3, none⟩ = some (.int .i64 x.f3)) (go_keep) ((go_at_call 105; refine (node_same x.f2 x.f3 _ b0 (by omega) qs).mono ?_; rintro e w7 ⟨rfl, rfl⟩))
           all_goals (go_wp2_with fail; go_meet)
           all_goals exact ⟨rfl, ⟨(Below.refl _ _).drew⟩⟩
          case rest =>
           obtain ⟨wf, hwf⟩ : ∃ x, x = wc := ⟨_, rfl⟩
           subst hwf
           obtain ⟨rfl, HB1⟩ := hcut
           replace hx0 := pw_cell_below HB1.out hx0
           replace hx1 := pw_cell_below HB1.out hx1
           replace hx2 := pw_cell_below HB1.out hx2
           replace hx3 := pw_cell_below HB1.out hx3
           replace hx4 := pw_cell_below HB1.out hx4
           replace HM : Aside0 (Mx wf w.heap.size g cap (2 * n) m) := ⟨HM.out.below HB1.out⟩
           replace HB : Aside0 (Below w.heap.size w wf) := ⟨below_step HB.out HB1.out⟩
           clear HB1
           go_upto_region 22 with (fail)
           generalize endN x.f0 x.f1 = a at *
           generalize endN x.f2 x.f3 = b at *
           have hoa : oth a < 2 * n := oth_lt ha
           have hob : oth b < 2 * n := oth_lt hb
           obtain ⟨gi, ci, hc0, hcs, hput⟩ := HM.out.row (i := oth b) hob
           obtain ⟨hc1, hf1⟩ := hcs a ha
           obtain ⟨hm2, hg2, hb2⟩ := hput a (min (m (oth b) a) x.f4) ha
           have HP := Aside0.mk hm2
           have HG := Aside0.mk (Mx.below0 HB.out hg2 hb2)
           clear hcs hput hm2 hg2 hb2
           have z1 : ((oth b : Nat) : Int) < ((2 * n : Nat) : Int) := by omega
           have z2 : ((a : Nat) : Int) < ((2 * n : Nat) : Int) := by omega
           have z3 : ((oth a : Nat) : Int) < ((2 * n : Nat) : Int) := by omega
           have z4 : ((b : Nat) : Int) < ((2 * n : Nat) : Int) := by omega
           have z5 : ((oth a : Nat) : Int) < 2 * (n : Int) := by omega
           have z6 : ((a : Nat) : Int) < 2 * (n : Int) := by omega
           have z7 : ((oth b : Nat) : Int) < 2 * (n : Int) := by omega
           have z8 : ((b : Nat) : Int) < 2 * (n : Int) := by omega
           go_cut [99] (fun v99 wd => Aside0 (Mx wd w.heap.size g cap (2 * n) (Vm.set m (oth b) a (min (m (oth b) a) x.f4))) ∧ Aside0 (Below w.heap.size w wd))
           case first =>
            refine start_ (n := 18) (S := fun w' => Aside0 (w' = wf.drew) ∧ w'.cell? ⟨g, oth b, none⟩ = some (.slice (some ⟨gi, 0, none⟩) (2 * n) ci) ∧ w'.cell? ⟨gi, a, none⟩ = some (.int .i64 (m (oth b) a)) ∧ w'.frozen? ⟨gi, a, none⟩ = false) (ds := [17]) #[ff,ff,ff,ff,ff,ff,ff,ff,ff,ff,ff,ff,ff,ff,ff,ff,ff,ff] (by kernel_rfl) rfl rfl ⟨⟨rfl⟩, hc0, hc1, hf1⟩ (fun hHeld => ?_)
            refine pure_ (i := 0) (N := some 84) (v := ?_) (a' := ?_) #[tt,ff,ff,ff,ff,ff,ff,ff,ff,ff,ff,ff,ff,ff,ff,ff,ff,ff] rfl rfl (by kernel_rfl) (fun _ _ _ h => h) (Or.inl ⟨by rfl, ?_⟩) ?_ ?_
            rotate_left
            · intro w'
              go_simp
              with_reducible rfl
            rotate_left
            · simp only [Act.put, List.setIfInBounds_toArray, List.set_cons_zero, List.set_cons_succ, i64_w, i32_w]
              rfl
            refine pure_ (i := 1) (N := some 85) (v := ?_) (a' := ?_) #[tt,tt,ff,ff,ff,ff,ff,ff,ff,ff,ff,ff,ff,ff,ff,ff,ff,ff] rfl rfl (by kernel_rfl) (fun _ _ _ h => h) (Or.inl ⟨by rfl, ?_⟩) ?_ ?_
            rotate_left
            · intro w'
              go_simp
              with_reducible rfl
            rotate_left
            · simp only [Act.put, List.setIfInBounds_toArray, List.set_cons_zero, List.set_cons_succ, i64_w, i32_w]
              rfl
            refine pure_ (i := 5) (N := some 89) (v := ?_) (a' := ?_) #[tt,tt,ff,ff,ff,tt,ff,ff,ff,ff,ff,ff,ff,ff,ff,ff,ff,ff] rfl rfl (by kernel_rfl) (fun _ _ _ h => h) (Or.inl ⟨by rfl, ?_⟩) ?_ ?_
            rotate_left
            · intro w'
              go_simp
              with_reducible rfl
            rotate_left
            · simp only [Act.put, List.setIfInBounds_toArray, List.set_cons_zero, List.set_cons_succ, i64_w, i32_w]
              rfl
            refine pure_ (i := 6) (N := some 90) (v := ?_) (a' := ?_) #[tt,tt,ff,ff,ff,tt,tt,ff,ff,ff,ff,ff,ff,ff,ff,ff,ff,ff] rfl rfl (by kernel_rfl) (fun _ _ _ h => h) (Or.inl ⟨by rfl, ?_⟩) ?_ ?_
            rotate_left
            · intro w'
              go_simp
              with_reducible rfl
            rotate_left
            · simp only [Act.put, List.setIfInBounds_toArray, List.set_cons_zero, List.set_cons_succ, i64_w, i32_w]
              rfl
            refine pure_ (i := 7) (N := some 91) (v := ?_) (a' := ?_) #[tt,tt,ff,ff,ff,tt,tt,tt,ff,ff,ff,ff,ff,ff,ff,ff,ff,ff] rfl rfl (by kernel_rfl) (fun _ _ _ h => h) (Or.inl ⟨by rfl, ?_⟩) ?_ ?_
            rotate_left
            · intro w'
              go_simp
              with_reducible rfl
            rotate_left
            · simp only [Act.put, List.setIfInBounds_toArray, List.set_cons_zero, List.set_cons_succ, i64_w, i32_w]
              rfl
            refine pure_ (i := 11) (N := some 95) (v := ?_) (a' := ?_) #[tt,tt,ff,ff,ff,tt,tt,tt,ff,ff,ff,tt,ff,ff,ff,ff,ff,ff] rfl rfl (by kernel_rfl) (fun _ _ _ h => h) (Or.inl ⟨by rfl, ?_⟩) ?_ ?_
            rotate_left
            · intro w'
              go_simp
              with_reducible rfl
            rotate_left
            · simp only [Act.put, List.setIfInBounds_toArray, List.set_cons_zero, List.set_cons_succ, i64_w, i32_w]
              rfl
            refine pure_ (i := 14) (N := some 98) (v := ?_) (a' := ?_) #[tt,tt,ff,ff,ff,tt,tt,tt,ff,ff,ff,tt,ff,ff,tt,ff,ff,ff] rfl rfl (by kernel_rfl) (fun _ _ _ h => h) (Or.inl ⟨by rfl, ?_⟩) ?_ ?_
            rotate_left
            · intro w'
              go_simp
              with_reducible rfl
            rotate_left
            · simp only [Act.put, List.setIfInBounds_toArray, List.set_cons_zero, List.set_cons_succ, i64_w, i32_w]
              rfl
            refine one_ (i := 2) (N := some 86) #[tt,tt,tt,ff,ff,tt,tt,tt,ff,ff,ff,tt,ff,ff,tt,ff,ff,ff] rfl rfl (by kernel_rfl) (by decide) (fun K hK => ?_)
            refine goes_ Try.func103 (by kernel_rfl) rfl #[.int .i64 ((b : Nat) : Int)] (by rfl) rfl rfl (by simp only [List.map_toArray, List.map_cons, List.map_nil]; rfl) ?_
            with_reducible refine (oth_same b _ (by omega)).mono ?_
            rintro e w7 ⟨rfl, rfl⟩
            refine ⟨_, rfl, ?_⟩
            refine hK.out _ _ ⟨hHeld.1, hHeld.2.1, hHeld.2.2.1, hHeld.2.2.2⟩ (fun hHeld => ?_)
            clear hK K
            refine norm_ (a' := ?_) ?_ ?_
            rotate_left
            · show Act.put _ (some 86) _ = _
              simp only [Act.put, List.setIfInBounds_toArray, List.set_cons_zero, List.set_cons_succ, i64_w, i32_w]
              rfl
            refine pure_ (i := 3) (N := some 87) (v := ?_) (a' := ?_) #[tt,tt,tt,tt,ff,tt,tt,tt,ff,ff,ff,tt,ff,ff,tt,ff,ff,ff] rfl rfl (by kernel_rfl) (fun _ _ _ h => h) (Or.inl ⟨by rfl, ?_⟩) ?_ ?_
            rotate_left
            · intro w'
              go_simp
              with_reducible rfl
            rotate_left
            · simp only [Act.put, List.setIfInBounds_toArray, List.set_cons_zero, List.set_cons_succ, i64_w, i32_w]
              rfl
            refine take_ (i := 4) (N := some 88) (v := ?_) (a' := ?_) #[tt,tt,tt,tt,tt,tt,tt,tt,ff,ff,ff,tt,ff,ff,tt,ff,ff,ff] rfl rfl (by kernel_rfl) (fun _ _ _ h => h) (Or.inl ⟨by rfl, ?_⟩) hHeld ?_ ?_
            rotate_left
            · rintro w' ⟨s0, s1, s2, s3⟩
              go_simp
              with_reducible rfl
            rotate_left
            · simp only [Act.put, List.setIfInBounds_toArray, List.set_cons_zero, List.set_cons_succ, i64_w, i32_w]
              rfl
            refine one_ (i := 8) (N := some 92) #[tt,tt,tt,tt,tt,tt,tt,tt,tt,ff,ff,tt,ff,ff,tt,ff,ff,ff] rfl rfl (by kernel_rfl) (by decide) (fun K hK => ?_)
            refine goes_ Try.func103 (by kernel_rfl) rfl #[.int .i64 ((b : Nat) : Int)] (by rfl) rfl rfl (by simp only [List.map_toArray, List.map_cons, List.map_nil]; rfl) ?_
            with_reducible refine (oth_same b _ (by omega)).mono ?_
            rintro e w7 ⟨rfl, rfl⟩
            refine ⟨_, rfl, ?_⟩
            refine hK.out _ _ ⟨hHeld.1, hHeld.2.1, hHeld.2.2.1, hHeld.2.2.2⟩ (fun hHeld => ?_)
            clear hK K
            refine norm_ (a' := ?_) ?_ ?_
            rotate_left
            · show Act.put _ (some 92) _ = _
              simp only [Act.put, List.setIfInBounds_toArray, List.set_cons_zero, List.set_cons_succ, i64_w, i32_w]
              rfl
            refine pure_ (i := 9) (N := some 93) (v := ?_) (a' := ?_) #[tt,tt,tt,tt,tt,tt,tt,tt,tt,tt,ff,tt,ff,ff,tt,ff,ff,ff] rfl rfl (by kernel_rfl) (fun _ _ _ h => h) (Or.inl ⟨by rfl, ?_⟩) ?_ ?_
            rotate_left
            · intro w'
              go_simp
              with_reducible rfl
            rotate_left
            · simp only [Act.put, List.setIfInBounds_toArray, List.set_cons_zero, List.set_cons_succ, i64_w, i32_w]
              rfl
            refine take_ (i := 10) (N := some 94) (v := ?_) (a' := ?_) #[tt,tt,tt,tt,tt,tt,tt,tt,tt,tt,tt,tt,ff,ff,tt,ff,ff,ff] rfl rfl (by kernel_rfl) (fun _ _ _ h => h) (Or.inl ⟨by rfl, ?_⟩) hHeld ?_ ?_
            rotate_left
            · rintro w' ⟨s0, s1, s2, s3⟩
              go_simp
              with_reducible rfl
            rotate_left
            · simp only [Act.put, List.setIfInBounds_toArray, List.set_cons_zero, List.set_cons_succ, i64_w, i32_w]
              rfl
            refine pure_ (i := 12) (N := some 96) (v := ?_) (a' := ?_) #[tt,tt,tt,tt,tt,tt,tt,tt,tt,tt,tt,tt,tt,ff,tt,ff,ff,ff] rfl rfl (by kernel_rfl) (fun _ _ _ h => h) (Or.inl ⟨by rfl, ?_⟩) ?_ ?_
            rotate_left
            · intro w'
              go_simp
              with_reducible rfl
            rotate_left
            · simp only [Act.put, List.setIfInBounds_toArray, List.set_cons_zero, List.set_cons_succ, i64_w, i32_w]
              rfl
            refine take_ (i := 13) (N := some 97) (v := ?_) (a' := ?_) #[tt,tt,tt,tt,tt,tt,tt,tt,tt,tt,tt,tt,tt,tt,tt,ff,ff,ff] rfl rfl (by kernel_rfl) (fun _ _ _ h => h) (Or.inl ⟨by rfl, ?_⟩) hHeld ?_ ?_
            rotate_left
            · rintro w' ⟨s0, s1, s2, s3⟩
              go_simp
              with_reducible rfl
            rotate_left
            · simp only [Act.put, List.setIfInBounds_toArray, List.set_cons_zero, List.set_cons_succ, i64_w, i32_w]
              rfl
            refine pure_ (i := 15) (N := some 99) (v := ?_) (a' := ?_) #[tt,tt,tt,tt,tt,tt,tt,tt,tt,tt,tt,tt,tt,tt,tt,tt,ff,ff] rfl rfl (by kernel_rfl) (fun _ _ _ h => h) (Or.inl ⟨by rfl, ?_⟩) ?_ ?_
            rotate_left
            · intro w'
              go_simp
              with_reducible rfl
            rotate_left
            · simp only [Act.put, List.setIfInBounds_toArray, List.set_cons_zero, List.set_cons_succ, i64_w, i32_w]
              rfl
            refine pure_ (i := 16) (N := some 100) (v := ?_) (a' := ?_) #[tt,tt,tt,tt,tt,tt,tt,tt,tt,tt,tt,tt,tt,tt,tt,tt,tt,ff] rfl rfl (by kernel_rfl) (fun _ _ _ h => h) (Or.inl ⟨by rfl, ?_⟩) ?_ ?_
            rotate_left
            · intro w'
              go_simp
              with_reducible rfl
            rotate_left
            · simp only [Act.put, List.setIfInBounds_toArray, List.set_cons_zero, List.set_cons_succ, i64_w, i32_w]
              rfl
            refine last_ (i := 17) (N := none) #[tt,tt,tt,tt,tt,tt,tt,tt,tt,tt,tt,tt,tt,tt,tt,tt,tt,tt] rfl rfl (by kernel_rfl) (by decide) (fun K hK => ?_)
            refine skip_ (w1 := ?_) (by rfl) rfl ?_ ?_
            rotate_left
            · go_simp
              rfl
            refine hK.out _ _ ?_
            clear hK K
            refine done_ (by kernel_rfl) ?_
            all_goals go_wp2_with fail
            all_goals go_meet
            all_goals first | ((have e : min (m (oth b) a) x.f4 = x.f4 := by omega); rw [e] at HP HG ⊢; exact ⟨⟨HP.out.below (Below.refl _ _).drew⟩, ⟨below_step HG.out (Below.refl _ _).drew⟩⟩) | ((have e : min (m (oth b) a) x.f4 = m (oth b) a := by omega); rw [e] at HP HG ⊢; exact ⟨⟨HP.out.below (Below.refl _ _).drew⟩, ⟨below_step HG.out (Below.refl _ _).drew⟩⟩)
           case rest =>
            obtain ⟨wd, hwd⟩ : ∃ x, x = wc := ⟨_, rfl⟩
            subst hwd
            obtain ⟨HM2, HB2⟩ := hcut
            clear hc0 hc1 hf1 HP HG
            obtain ⟨m2, hm2⟩ : ∃ m2, m2 = (Vm.set m (oth b) a (min (m (oth b) a) x.f4)) := ⟨_, rfl⟩
            rw [← hm2] at HM2 HLV
            clear hm2
            obtain ⟨gj, cj, hc0, hcs, hput⟩ := HM2.out.row (i := oth a) hoa
            obtain ⟨hc1, hf1⟩ := hcs b hb
            obtain ⟨hm2, hg2, hb2⟩ := hput b (min (m2 (oth a) b) x.f4) hb
            have HP := Aside0.mk hm2
            have HG := Aside0.mk (Mx.below0 HB2.out hg2 hb2)
            clear hcs hput hm2 hg2 hb2
            go_upto_region 23 with (fail)
            refine start_ (n := 18) (S := fun w' => Aside0 (w' = wd.drew) ∧ w'.cell? ⟨g, oth a, none⟩ = some (.slice (some ⟨gj, 0, none⟩) (2 * n) cj) ∧ w'.cell? ⟨gj, b, none⟩ = some (.int .i64 (m2 (oth a) b)) ∧ w'.frozen? ⟨gj, b, none⟩ = false) (ds := [17]) #[ff,ff,ff,ff,ff,ff,ff,ff,ff,ff,ff,ff,ff,ff,ff,ff,ff,ff] (by kernel_rfl) rfl rfl ⟨⟨rfl⟩, hc0, hc1, hf1⟩ (fun hHeld => ?_)
            refine pure_ (i := 0) (N := some 101) (v := ?_) (a' := ?_) #[tt,ff,ff,ff,ff,ff,ff,ff,ff,ff,ff,ff,ff,ff,ff,ff,ff,ff] rfl rfl (by kernel_rfl) (fun _ _ _ h => h) (Or.inl ⟨by rfl, ?_⟩) ?_ ?_
            rotate_left
            · intro w'
              go_simp
              with_reducible rfl
            rotate_left
            · simp only [Act.put, List.setIfInBounds_toArray, List.set_cons_zero, List.set_cons_succ, i64_w, i32_w]
              rfl
            refine pure_ (i := 1) (N := some 102) (v := ?_) (a' := ?_) #[tt,tt,ff,ff,ff,ff,ff,ff,ff,ff,ff,ff,ff,ff,ff,ff,ff,ff] rfl rfl (by kernel_rfl) (fun _ _ _ h => h) (Or.inl ⟨by rfl, ?_⟩) ?_ ?_
            rotate_left
            · intro w'
              go_simp
              with_reducible rfl
            rotate_left
            · simp only [Act.put, List.setIfInBounds_toArray, List.set_cons_zero, List.set_cons_succ, i64_w, i32_w]
              rfl
            refine pure_ (i := 5) (N := some 106) (v := ?_) (a' := ?_) #[tt,tt,ff,ff,ff,tt,ff,ff,ff,ff,ff,ff,ff,ff,ff,ff,ff,ff] rfl rfl (by kernel_rfl) (fun _ _ _ h => h) (Or.inl ⟨by rfl, ?_⟩) ?_ ?_
            rotate_left
            · intro w'
              go_simp
              with_reducible rfl
            rotate_left
            · simp only [Act.put, List.setIfInBounds_toArray, List.set_cons_zero, List.set_cons_succ, i64_w, i32_w]
              rfl
            refine pure_ (i := 6) (N := some 107) (v := ?_) (a' := ?_) #[tt,tt,ff,ff,ff,tt,tt,ff,ff,ff,ff,ff,ff,ff,ff,ff,ff,ff] rfl rfl (by kernel_rfl) (fun _ _ _ h => h) (Or.inl ⟨by rfl, ?_⟩) ?_ ?_
            rotate_left
            · intro w'
              go_simp
              with_reducible rfl
            rotate_left
            · simp only [Act.put, List.setIfInBounds_toArray, List.set_cons_zero, List.set_cons_succ, i64_w, i32_w]
              rfl
            refine pure_ (i := 7) (N := some 108) (v := ?_) (a' := ?_) #[tt,tt,ff,ff,ff,tt,tt,tt,ff,ff,ff,ff,ff,ff,ff,ff,ff,ff] rfl rfl (by kernel_rfl) (fun _ _ _ h => h) (Or.inl ⟨by rfl, ?_⟩) ?_ ?_
            rotate_left
            · intro w'
              go_simp
              with_reducible rfl
            rotate_left
            · simp only [Act.put, List.setIfInBounds_toArray, List.set_cons_zero, List.set_cons_succ, i64_w, i32_w]
              rfl
            refine pure_ (i := 11) (N := some 112) (v := ?_) (a' := ?_) #[tt,tt,ff,ff,ff,tt,tt,tt,ff,ff,ff,tt,ff,ff,ff,ff,ff,ff] rfl rfl (by kernel_rfl) (fun _ _ _ h => h) (Or.inl ⟨by rfl, ?_⟩) ?_ ?_
            rotate_left
            · intro w'
              go_simp
              with_reducible rfl
            rotate_left
            · simp only [Act.put, List.setIfInBounds_toArray, List.set_cons_zero, List.set_cons_succ, i64_w, i32_w]
              rfl
            refine pure_ (i := 14) (N := some 115) (v := ?_) (a' := ?_) #[tt,tt,ff,ff,ff,tt,tt,tt,ff,ff,ff,tt,ff,ff,tt,ff,ff,ff] rfl rfl (by kernel_rfl) (fun _ _ _ h => h) (Or.inl ⟨by rfl, ?_⟩) ?_ ?_
            rotate_left
            · intro w'
              go_simp
              with_reducible rfl
            rotate_left
            · simp only [Act.put, List.setIfInBounds_toArray, List.set_cons_zero, List.set_cons_succ, i64_w, i32_w]
              rfl
            refine one_ (i := 2) (N := some 103) #[tt,tt,tt,ff,ff,tt,tt,tt,ff,ff,ff,tt,ff,ff,tt,ff,ff,ff] rfl rfl (by kernel_rfl) (by decide) (fun K hK => ?_)
            refine goes_ Try.func103 (by kernel_rfl) rfl #[.int .i64 ((a : Nat) : Int)] (by rfl) rfl rfl (by simp only [List.map_toArray, List.map_cons, List.map_nil]; rfl) ?_
            with_reducible refine (oth_same a _ (by omega)).mono ?_
            rintro e w7 ⟨rfl, rfl⟩
            refine ⟨_, rfl, ?_⟩
            refine hK.out _ _ ⟨hHeld.1, hHeld.2.1, hHeld.2.2.1, hHeld.2.2.2⟩ (fun hHeld => ?_)
            clear hK K
            refine norm_ (a' := ?_) ?_ ?_
            rotate_left
            · show Act.put _ (some 103) _ = _
              simp only [Act.put, List.setIfInBounds_toArray, List.set_cons_zero, List.set_cons_succ, i64_w, i32_w]
              rfl
            refine pure_ (i := 3) (N := some 104) (v := ?_) (a' := ?_) #[tt,tt,tt,tt,ff,tt,tt,tt,ff,ff,ff,tt,ff,ff,tt,ff,ff,ff] rfl rfl (by kernel_rfl) (fun _ _ _ h => h) (Or.inl ⟨by rfl, ?_⟩) ?_ ?_
            rotate_left
            · intro w'
              go_simp
              with_reducible rfl
            rotate_left
            · simp only [Act.put, List.setIfInBounds_toArray, List.set_cons_zero, List.set_cons_succ, i64_w, i32_w]
              rfl
            refine take_ (i := 4) (N := some 105) (v := ?_) (a' := ?_) #[tt,tt,tt,tt,tt,tt,tt,tt,ff,ff,ff,tt,ff,ff,tt,ff,ff,ff] rfl rfl (by kernel_rfl) (fun _ _ _ h => h) (Or.inl ⟨by rfl, ?_⟩) hHeld ?_ ?_
            rotate_left
            · rintro w' ⟨s0, s1, s2, s3⟩
              go_simp
              with_reducible rfl
            rotate_left
            · simp only [Act.put, List.setIfInBounds_toArray, List.set_cons_zero, List.set_cons_succ, i64_w, i32_w]
              rfl
            refine one_ (i := 8) (N := some 109) #[tt,tt,tt,tt,tt,tt,tt,tt,tt,ff,ff,tt,ff,ff,tt,ff,ff,ff] rfl rfl (by kernel_rfl) (by decide) (fun K hK => ?_)
            refine goes_ Try.func103 (by kernel_rfl) rfl #[.int .i64 ((a : Nat) : Int)] (by rfl) rfl rfl (by simp only [List.map_toArray, List.map_cons, List.map_nil]; rfl) ?_
            with_reducible refine (oth_same a _ (by omega)).mono ?_
            rintro e w7 ⟨rfl, rfl⟩
            refine ⟨_, rfl, ?_⟩
            refine hK.out _ _ ⟨hHeld.1, hHeld.2.1, hHeld.2.2.1, hHeld.2.2.2⟩ (fun hHeld => ?_)
            clear hK K
            refine norm_ (a' := ?_) ?_ ?_
            rotate_left
            · show Act.put _ (some 109) _ = _
              simp only [Act.put, List.setIfInBounds_toArray, List.set_cons_zero, List.set_cons_succ, i64_w, i32_w]
              rfl
            refine pure_ (i := 9) (N := some 110) (v := ?_) (a' := ?_) #[tt,tt,tt,tt,tt,tt,tt,tt,tt,tt,ff,tt,ff,ff,tt,ff,ff,ff] rfl rfl (by kernel_rfl) (fun _ _ _ h => h) (Or.inl ⟨by rfl, ?_⟩) ?_ ?_
            rotate_left
            · intro w'
              go_simp
              with_reducible rfl
            rotate_left
            · simp only [Act.put, List.setIfInBounds_toArray, List.set_cons_zero, List.set_cons_succ, i64_w, i32_w]
              rfl
            refine take_ (i := 10) (N := some 111) (v := ?_) (a' := ?_) #[tt,tt,tt,tt,tt,tt,tt,tt,tt,tt,tt,tt,ff,ff,tt,ff,ff,ff] rfl rfl (by kernel_rfl) (fun _ _ _ h => h) (Or.inl ⟨by rfl, ?_⟩) hHeld ?_ ?_
            rotate_left
            · rintro w' ⟨s0, s1, s2, s3⟩
              go_simp
              with_reducible rfl
            rotate_left
            · simp only [Act.put, List.setIfInBounds_toArray, List.set_cons_zero, List.set_cons_succ, i64_w, i32_w]
              rfl
            refine pure_ (i := 12) (N := some 113) (v := ?_) (a' := ?_) #[tt,tt,tt,tt,tt,tt,tt,tt,tt,tt,tt,tt,tt,ff,tt,ff,ff,ff] rfl rfl (by kernel_rfl) (fun _ _ _ h => h) (Or.inl ⟨by rfl, ?_⟩) ?_ ?_
            rotate_left
            · intro w'
              go_simp
              with_reducible rfl
            rotate_left
            · simp only [Act.put, List.setIfInBounds_toArray, List.set_cons_zero, List.set_cons_succ, i64_w, i32_w]
              rfl
            refine take_ (i := 13) (N := some 114) (v := ?_) (a' := ?_) #[tt,tt,tt,tt,tt,tt,tt,tt,tt,tt,tt,tt,tt,tt,tt,ff,ff,ff] rfl rfl (by kernel_rfl) (fun _ _ _ h => h) (Or.inl ⟨by rfl, ?_⟩) hHeld ?_ ?_
            rotate_left
            · rintro w' ⟨s0, s1, s2, s3⟩
              go_simp
              with_reducible rfl
            rotate_left
            · simp only [Act.put, List.setIfInBounds_toArray, List.set_cons_zero, List.set_cons_succ, i64_w, i32_w]
              rfl
            refine pure_ (i := 15) (N := some 116) (v := ?_) (a' := ?_) #[tt,tt,tt,tt,tt,tt,tt,tt,tt,tt,tt,tt,tt,tt,tt,tt,ff,ff] rfl rfl (by kernel_rfl) (fun _ _ _ h => h) (Or.inl ⟨by rfl, ?_⟩) ?_ ?_
            rotate_left
            · intro w'
              go_simp
              with_reducible rfl
            rotate_left
            · simp only [Act.put, List.setIfInBounds_toArray, List.set_cons_zero, List.set_cons_succ, i64_w, i32_w]
              rfl
            refine pure_ (i := 16) (N := some 117) (v := ?_) (a' := ?_) #[tt,tt,tt,tt,tt,tt,tt,tt,tt,tt,tt,tt,tt,tt,tt,tt,tt,ff] rfl rfl (by kernel_rfl) (fun _ _ _ h => h) (Or.inl ⟨by rfl, ?_⟩) ?_ ?_
            rotate_left
            · intro w'
              go_simp
              with_reducible rfl
            rotate_left
            · simp only [Act.put, List.setIfInBounds_toArray, List.set_cons_zero, List.set_cons_succ, i64_w, i32_w]
              rfl
            refine last_ (i := 17) (N := none) #[tt,tt,tt,tt,tt,tt,tt,tt,tt,tt,tt,tt,tt,tt,tt,tt,tt,tt] rfl rfl (by kernel_rfl) (by decide) (fun K hK => ?_)
            refine skip_ (w1 := ?_) (by rfl) rfl ?_ ?_
            rotate_left
            · go_simp
              rfl
            refine hK.out _ _ ?_
            clear hK K
            refine done_ (by kernel_rfl) ?_
            all_goals go_wp2_with fail
            all_goals go_roundw
            all_goals first | (case measure => simp [intOf]; omega) | ((have e : (if x.f4 < m2 (oth a) b then x.f4 else m2 (oth a) b) = min (m2 (oth a) b) (x.f4) := by split <;> omega); rw [e]; have hl := HLV.out; refine ⟨i + 1, by go_num, by omega, ⟨?_⟩, ⟨below_step HG.out (Below.refl _ _).drew⟩⟩; rw [hl]; exact HP.out.below (Below.refl _ _).drew) | ((have e : min (m2 (oth a) b) x.f4 = x.f4 := by omega); have hp := HP.out; have hg := HG.out; rw [e] at hp hg; have hl := HLV.out; rw [e] at hl; refine ⟨i + 1, by go_num, by omega, ⟨?_⟩, ⟨below_step hg (Below.refl _ _).drew⟩⟩; rw [hl]; exact hp.below (Below.refl _ _).drew) | ((have e : min (m2 (oth a) b) x.f4 = m2 (oth a) b := by omega); have hp := HP.out; have hg := HG.out; rw [e] at hp hg; have hl := HLV.out; rw [e] at hl; refine ⟨i + 1, by go_num, by omega, ⟨?_⟩, ⟨below_step hg (Below.refl _ _).drew⟩⟩; rw [hl]; exact hp.below (Below.refl _ _).drew)
     · obtain rfl : i = l.length := by omega
       go_wp2_with fail
       go_ret
       exact ⟨g, cap, by simp, HM.out, HB.out⟩
end Go.Proofs.Ytmoiickbgokloaa.PA
