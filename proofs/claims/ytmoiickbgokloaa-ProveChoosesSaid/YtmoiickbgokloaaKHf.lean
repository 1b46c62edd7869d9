/- Contracts by hand: closed.of: the bound of what a line is about. -/
import Derived.StillTailTactics
import Derived.Test.YtmoiickbgokloaaKHe
namespace Go.Proofs.Ytmoiickbgokloaa.PA
open Go.RowKit Go.Proofs.YtmoiickbgokloaaW.PrintWords Go.Proofs.YtmoiickbgokloaaW.PrintLast Go.Proofs.YtmoiickbgokloaaW.PrintMore Go.Proofs.Ytmoiickbgokloaa.Utv
set_option linter.unusedVariables false
set_option linter.unusedSimpArgs false
/-- The bound that closed.of tells, and its derivation. -/
def ofM (S : Mt) (T : Nat → Int × Option Tree) (a : S24) : Int × Option Tree :=
 if a.f3 = 0 then T (endN a.f0 a.f1)
 else if (T (endN a.f0 a.f1)).1 < far ∧ (T (oth (endN a.f2 (-a.f3)))).1 < far ∧ wrap64 ((T (endN a.f0 a.f1)).1 + (T (oth (endN a.f2 (-a.f3)))).1) < (S (endN a.f0 a.f1) (endN a.f2 (-a.f3))).1
  then (wrap64 ((T (endN a.f0 a.f1)).1 + (T (oth (endN a.f2 (-a.f3)))).1), match (T (endN a.f0 a.f1)).2, (T (oth (endN a.f2 (-a.f3)))).2 with | some t, some u => some (.sum t u) | _, _ => none)
  else S (endN a.f0 a.f1) (endN a.f2 (-a.f3))
/-- The tops that are there are derived. -/
def Tops (n : Nat) (T : Nat → Int × Option Tree) : Prop := ∀ i, i < 2 * n → (T i).1 < far → (T i).2 ≠ none
def OfPost (n : Nat) (S : Mt) (T : Nat → Int × Option Tree) (a : S24) (w : World) (e : Ending) (w' : World) : Prop :=
 Below w.heap.size w w' ∧ ∃ p, e = .returned (.agg #[.int .i64 (ofM S T a).1, .pointer p]) ∧ (Tops n T → Why w' (ofM S T a).2 (.pointer p))
theorem res2 {W : World} {R : Nat} (h : W.heap[R]? = some (.cells #[.int .i64 0, .pointer none] 102 (0, 0))) (m : Int) (p : Option Addr) :
 ((W.setCell ⟨R, 0, none⟩ (.int .i64 m)).setCell ⟨R, 1, none⟩ (.pointer p)).heap[R]? = some (.cells #[.int .i64 m, .pointer p] 102 (0, 0)) := by
 have h1 := blk_set h 0 (.int .i64 m)
 have h2 := blk_set h1 1 (.pointer p)
 simpa using h2
theorem info102 : (Try.prog.info? 102).map (·.size) = some 2 := by kernel_rfl
set_option maxRecDepth 100000 in
set_option maxHeartbeats 2000000 in
theorem of_calls (n B : Nat) (C : Array Value) (S : Mt) (T : Nat → Int × Option Tree) (no : Option Addr) (a : S24) (w : World) (hn : n ≤ 12) (r : Rt n a) (hC : Clo w C n B T no) (hM : Mat w B S) :
 Calls Try.prog 58 #[.agg C, .agg #[.int .i64 a.f0, .int .i64 a.f1, .int .i64 a.f2, .int .i64 a.f3, .int .i64 a.f4]] w (OfPost n S T a w) := by
 have hu105 := Try.underlying105
 have hu147 := Try.underlying147
 have hu103 := Try.underlying103
 have hu102 := Try.underlying102
 have hu24 := Try.underlying24
 have HC := Aside0.mk hC
 have HM := Aside0.mk hM
 clear hC hM
 go_enter Try.func58, Try.ntmps58
 go_upto_region 1 with (fail)
 obtain ⟨U, hU⟩ : ∃ U, U = (((w.alloc (.cells C 105)).alloc (.cells #[.int .i64 a.f0, .int .i64 a.f1, .int .i64 a.f2, .int .i64 a.f3, .int .i64 a.f4] 24)).alloc (.cells #[.int .i64 0, .pointer none] 102)) := ⟨_, rfl⟩
 rw [← hU]
 have hb0 : Below w.heap.size w U := by rw [hU]; exact (((Below.refl _ w).alloc (Nat.le_refl _) _).alloc (by simp) _).alloc (by simp; omega) _
 have hCU : CloB U w.heap.size n B T no := ⟨C, by rw [hU]; exact heap3_0 _ _ _ _, HC.out.stays (Stays.below hb0 rfl)⟩
 have HCU := Aside0.mk hCU
 have HMU : Aside0 (Mat U B S) := ⟨HM.out.below hb0⟩
 have HX : U.heap[w.heap.size + 1]? = some (.cells #[.int .i64 a.f0, .int .i64 a.f1, .int .i64 a.f2, .int .i64 a.f3, .int .i64 a.f4] 24 (0, 0)) := by rw [hU]; exact heap3_1 _ _ _ _
 have HR : Aside0 (U.heap[w.heap.size + 1 + 1]? = some (.cells #[.int .i64 0, .pointer none] 102 (0, 0))) := ⟨by rw [hU]; exact heap3_2 _ _ _ _⟩
 have HB := Aside0.mk hb0
 have N : Aside0 (B < w.heap.size) := ⟨HM.out.lt⟩
 have q0 : U.cell? ⟨w.heap.size + 1, 0, none⟩ = some (.int .i64 a.f0) := (cell_of HX 0).trans rfl
 have q1 : U.cell? ⟨w.heap.size + 1, 1, none⟩ = some (.int .i64 a.f1) := (cell_of HX 1).trans rfl
 have q2 : U.cell? ⟨w.heap.size + 1, 2, none⟩ = some (.int .i64 a.f2) := (cell_of HX 2).trans rfl
 have q3 : U.cell? ⟨w.heap.size + 1, 3, none⟩ = some (.int .i64 a.f3) := (cell_of HX 3).trans rfl
 have r0 : U.cell? ⟨w.heap.size + 1 + 1, 0, none⟩ = some (.int .i64 0) := (cell_of HR.out 0).trans rfl
 have r1 : U.cell? ⟨w.heap.size + 1 + 1, 1, none⟩ = some (.pointer none) := (cell_of HR.out 1).trans rfl
 have r2 : U.frozen? ⟨w.heap.size + 1 + 1, 0, none⟩ = false := blk_frozen HR.out 0
 have r3 : U.frozen? ⟨w.heap.size + 1 + 1, 1, none⟩ = false := blk_frozen HR.out 1
 clear hU hb0 hCU HX HC HM
 have a0 := r.a0
 have a1 := r.a1
 have hi := endN_lt (s := a.f1) r.a0 r.a1
 have hi24 : endN a.f0 a.f1 < 24 := by omega
 obtain ⟨i, hie⟩ : ∃ i, i = endN a.f0 a.f1 := ⟨_, rfl⟩
 have HIE := Aside0.mk hie
 have hE : ∀ W, Calls Try.prog 63 #[.int .i64 a.f0, .int .i64 a.f1] W fun e w' => e = .returned (.int .i64 (i : Nat)) ∧ W = w' := fun W => by rw [hie]; exact end_same a.f0 a.f1 W a0 (by omega)
 have HEC := Aside0.mk hE
 rw [← hie] at hi hi24
 clear hE hie
 have hi24' : (i : Int) < 24 := by omega
 by_cases hq : a.f3 = 0
 · have hqb : (a.f3 == 0) = true := beq_iff_eq.mpr hq
   have HEQ : Aside0 (ofM S T a = T i) := ⟨by unfold ofM; rw [if_pos hq, ← HIE.out]⟩
   clear hq
   have t0 := HCU.out.top0 hi24
   obtain ⟨p, t1, hw⟩ := HCU.out.top1 hi24
   have HW := Aside0.mk hw
   clear hw
   go_wp2_with (go_at_call 63; refine (HEC.out _).mono ?_; rintro e w1 ⟨rfl, rfl⟩)
   refine bodyPost_ret (v := .agg #[.int .i64 (T i).1, .pointer p]) (results_cell_row rfl _ _ (w.heap.size + 1 + 1) 102 #[.int .i64 (T i).1, .pointer p] (0, 0) _ rfl (res2 HR.out _ _) Try.underlying102 rfl info102) rfl ?_
   refine ⟨(HB.out.setCell (show w.heap.size ≤ w.heap.size + 1 + 1 by omega) _).setCell (show w.heap.size ≤ w.heap.size + 1 + 1 by omega) _, p, by rw [HEQ.out], fun _ => ?_⟩
   rw [HEQ.out]
   have g1 := blk_set HR.out 0 (.int .i64 (T i).1)
   exact HW.out.stays ((Stays.setCell HR.out (by decide) _).trans (Stays.setCell g1 (by decide) _))
 · obtain ⟨h3q, b0, b1, hab⟩ : (a.f3 = 1 ∨ a.f3 = -1) ∧ 0 ≤ a.f2 ∧ a.f2 < n ∧ a.f2 ≠ a.f0 := r.q.resolve_left (fun h => hq h.1)
   have hqb : (a.f3 == 0) = false := beq_eq_false_iff_ne.mpr hq
   have hneg : IntKind.i64.wrap (-a.f3) = -a.f3 := (i64_w _).trans (by unfold wrap64; omega)
   have hj := endN_lt (s := -a.f3) b0 b1
   obtain ⟨j, hje⟩ : ∃ j, j = endN a.f2 (-a.f3) := ⟨_, rfl⟩
   have HEQ : Aside0 (ofM S T a = if (T i).1 < far ∧ (T (oth j)).1 < far ∧ wrap64 ((T i).1 + (T (oth j)).1) < (S i j).1 then (wrap64 ((T i).1 + (T (oth j)).1), match (T i).2, (T (oth j)).2 with | some t, some u => some (.sum t u) | _, _ => none) else S i j) := ⟨by unfold ofM; rw [if_neg hq, ← HIE.out, ← hje]⟩
   have hE : ∀ W, Calls Try.prog 63 #[.int .i64 a.f2, .int .i64 (-a.f3)] W fun e w' => e = .returned (.int .i64 (j : Nat)) ∧ W = w' := fun W => by rw [hje]; exact end_same a.f2 (-a.f3) W b0 (by omega)
   have HEJ := Aside0.mk hE
   rw [← hje] at hj
   clear hE hje hq
   have hj24 : j < 24 := by omega
   have hj24' : (j : Int) < 24 := by omega
   have hoj : oth j < 24 := oth_lt (n := 12) hj24
   have hoj24 : ((oth j : Nat) : Int) < 24 := by omega
   have y1 := HCU.out.by_
   have c0 := HMU.out.cell0 hi24 hj24
   obtain ⟨pc, c1, hwc⟩ := HMU.out.cell1p hi24 hj24
   have HWC := Aside0.mk hwc
   clear hwc
   go_upto_region 6 with (first | (go_at_call_of 63 a.f2; refine (HEJ.out _).mono ?_; rintro e w1 ⟨rfl, rfl⟩) | (go_at_call_of 63 a.f0; refine (HEC.out _).mono ?_; rintro e w1 ⟨rfl, rfl⟩))
   obtain ⟨V, hV⟩ : ∃ V, V = U.alloc (.cells #[.int .i64 (S i j).1, .pointer pc] 102) := ⟨_, rfl⟩
   rw [← hV]
   have hbV : Below U.heap.size U V := by rw [hV]; exact (Below.refl _ U).alloc (Nat.le_refl _) _
   have HCV : Aside0 (CloB V w.heap.size n B T no) := ⟨HCU.out.below hbV⟩
   have HRV : Aside0 (V.heap[w.heap.size + 1 + 1]? = some (.cells #[.int .i64 0, .pointer none] 102 (0, 0))) := ⟨blk_below HR.out hbV⟩
   have HDV : Aside0 (V.heap[U.heap.size]? = some (.cells #[.int .i64 (S i j).1, .pointer pc] 102 (0, 0))) := ⟨by rw [hV]; exact heap1_0 _ _⟩
   have HWV : Aside0 (Why V (S i j).2 (.pointer pc)) := ⟨HWC.out.stays (Stays.below hbV rfl)⟩
   have HBV : Aside0 (Below w.heap.size w V) := ⟨below_step HB.out hbV⟩
   have NR : Aside0 (w.heap.size + 1 + 1 < U.heap.size) := ⟨blk_lt HR.out⟩
   clear hV hbV q0 q1 q2 q3 r0 r1 r2 r3 y1 c0 c1 HCU HMU HR HB HWC HEC HEJ
   generalize U.heap.size = D at *
   generalize hRR : w.heap.size + 1 + 1 = R at *
   have HRR := Aside0.mk hRR
   clear hRR
   have c10 := HCV.out.top0 (i := i) hi24
   obtain ⟨p1, c11, W1⟩ := HCV.out.top1 (i := i) hi24
   have c20 := HCV.out.top0 (i := oth j) hoj
   obtain ⟨p2, c21, W2⟩ := HCV.out.top1 (i := oth j) hoj
   have HW1 := Aside0.mk W1
   have HW2 := Aside0.mk W2
   clear W1 W2
   go_cut [8, 9] (fun v8 v9 wc => ∃ g h : Nat, v8 = .pointer (some ⟨g, 0, none⟩) ∧ v9 = .pointer (some ⟨h, 0, none⟩) ∧ Aside0 (wc.heap[g]? = some (.cells #[.int .i64 (T i).1, .pointer p1] 102 (0, 0))) ∧ Aside0 (wc.heap[h]? = some (.cells #[.int .i64 (T (oth j)).1, .pointer p2] 102 (0, 0))) ∧ Aside0 (Below V.heap.size V wc))
   case first =>
    go_region_held3 (fun w' => w'.cell? ⟨w.heap.size, 2 + i * 2, none⟩ = some (.int .i64 (T i).1) ∧ w'.cell? ⟨w.heap.size, 2 + i * 2 + 1, none⟩ = some (.pointer p1) ∧ w'.cell? ⟨w.heap.size, 2 + oth j * 2, none⟩ = some (.int .i64 (T (oth j)).1) ∧ w'.cell? ⟨w.heap.size, 2 + oth j * 2 + 1, none⟩ = some (.pointer p2)) (go_keep) ((go_at_call 96; refine (other_still j _ (by omega)).mono ?_; rintro e w7 ⟨rfl, rfl⟩))
    all_goals (go_wp2_with fail; go_meet)
    all_goals first
     | exact ⟨V.heap.size, V.heap.size + 1, rfl, rfl, ⟨blk_drew (heap2_0 _ _ _)⟩, ⟨blk_drew (heap2_1 _ _ _)⟩, ⟨(((Below.refl _ V).alloc (Nat.le_refl _) _).alloc (by simp) _).drew⟩⟩
     | exact ⟨V.heap.size + 1, V.heap.size, rfl, rfl, ⟨blk_drew (heap2_1 _ _ _)⟩, ⟨blk_drew (heap2_0 _ _ _)⟩, ⟨(((Below.refl _ V).alloc (Nat.le_refl _) _).alloc (by simp) _).drew⟩⟩
   case rest =>
    obtain ⟨g, h, rfl, rfl, HX, HY, HBX⟩ := hcut
    have HR7 : Aside0 (wc.heap[R]? = some (.cells #[.int .i64 0, .pointer none] 102 (0, 0))) := ⟨blk_below HRV.out HBX.out⟩
    have HD7 : Aside0 (wc.heap[D]? = some (.cells #[.int .i64 (S i j).1, .pointer pc] 102 (0, 0))) := ⟨blk_below HDV.out HBX.out⟩
    have HB7 : Aside0 (Below w.heap.size w wc) := ⟨below_step HBV.out HBX.out⟩
    have HV1 : Aside0 (Why wc (T i).2 (.pointer p1)) := ⟨HW1.out.stays (Stays.below HBX.out rfl)⟩
    have HV2 : Aside0 (Why wc (T (oth j)).2 (.pointer p2)) := ⟨HW2.out.stays (Stays.below HBX.out rfl)⟩
    have HVC : Aside0 (Why wc (S i j).2 (.pointer pc)) := ⟨HWV.out.stays (Stays.below HBX.out rfl)⟩
    have x0 : wc.cell? ⟨g, 0, none⟩ = some (.int .i64 (T i).1) := (cell_of HX.out 0).trans rfl
    have x1 : wc.cell? ⟨g, 1, none⟩ = some (.pointer p1) := (cell_of HX.out 1).trans rfl
    have z0 : wc.cell? ⟨h, 0, none⟩ = some (.int .i64 (T (oth j)).1) := (cell_of HY.out 0).trans rfl
    have z1 : wc.cell? ⟨h, 1, none⟩ = some (.pointer p2) := (cell_of HY.out 1).trans rfl
    have d0 : wc.cell? ⟨D, 0, none⟩ = some (.int .i64 (S i j).1) := (cell_of HD7.out 0).trans rfl
    have d1 : wc.cell? ⟨D, 1, none⟩ = some (.pointer pc) := (cell_of HD7.out 1).trans rfl
    have fd0 : wc.frozen? ⟨D, 0, none⟩ = false := blk_frozen HD7.out 0
    have fd1 : wc.frozen? ⟨D, 1, none⟩ = false := blk_frozen HD7.out 1
    have r0 : wc.cell? ⟨R, 0, none⟩ = some (.int .i64 0) := (cell_of HR7.out 0).trans rfl
    have r1 : wc.cell? ⟨R, 1, none⟩ = some (.pointer none) := (cell_of HR7.out 1).trans rfl
    have r2 : wc.frozen? ⟨R, 0, none⟩ = false := blk_frozen HR7.out 0
    have r3 : wc.frozen? ⟨R, 1, none⟩ = false := blk_frozen HR7.out 1
    clear HCV HRV HDV HBV HWV HW1 HW2 c10 c11 c20 c21 HX HY HBX
    by_cases h1 : (T i).1 < far
    · have b1 : decide ((T i).1 < 1152921504606846976) = true := decide_eq_true h1
      by_cases h2 : (T (oth j)).1 < far
      · have b2 : decide ((T (oth j)).1 < 1152921504606846976) = true := decide_eq_true h2
        have hwr : IntKind.i64.wrap ((T i).1 + (T (oth j)).1) = wrap64 ((T i).1 + (T (oth j)).1) := i64_w _
        by_cases h3 : wrap64 ((T i).1 + (T (oth j)).1) < (S i j).1
        · have HM3 : Aside0 (ofM S T a = (wrap64 ((T i).1 + (T (oth j)).1), match (T i).2, (T (oth j)).2 with | some t, some u => some (.sum t u) | _, _ => none)) := ⟨by rw [HEQ.out, if_pos ⟨h1, h2, h3⟩]⟩
          have H12 := Aside0.mk (And.intro h1 h2)
          clear h1 h2
          generalize wrap64 ((T i).1 + (T (oth j)).1) = m at *
          have hZ : ∀ Z : World, Z = ((wc.setCell ⟨D, 0, none⟩ (.int .i64 m)).setCell ⟨D, 0 + 1, none⟩ (.pointer (some ⟨wc.heap.size, 0, none⟩))).alloc (.cells #[.int .i64 2, .int .i64 0, .pointer p1, .pointer p2] 164) →
           Z.heap[D]? = some (.cells #[.int .i64 m, .pointer (some ⟨wc.heap.size, 0, none⟩)] 102 (0, 0)) ∧ Z.heap[R]? = some (.cells #[.int .i64 0, .pointer none] 102 (0, 0)) ∧ Below w.heap.size w Z ∧ Stays wc Z ∧ Z.heap[wc.heap.size]? = some (.cells #[.int .i64 2, .int .i64 0, .pointer p1, .pointer p2] 164 (0, 0)) := by
           rintro Z rfl
           have hN := NR.out
           have hN2 := HRR.out
           have g1 := blk_set HD7.out 0 (.int .i64 m)
           have g2 := blk_set g1 1 (.pointer (some ⟨wc.heap.size, 0, none⟩))
           have hn := heap1_0 ((wc.setCell ⟨D, 0, none⟩ (.int .i64 m)).setCell ⟨D, 0 + 1, none⟩ (.pointer (some ⟨wc.heap.size, 0, none⟩))) (.cells #[.int .i64 2, .int .i64 0, .pointer p1, .pointer p2] 164)
           rw [size_setCell, size_setCell] at hn
           refine ⟨blk_alloc (by simpa using g2) _, blk_alloc (by rw [heap_setCell_other _ _ _ _ (by show R ≠ D; omega), heap_setCell_other _ _ _ _ (by show R ≠ D; omega)]; exact HR7.out) _, ?_, ((Stays.setCell HD7.out (by decide) _).trans (Stays.setCell g1 (by decide) _)).trans (Stays.alloc _ _), hn⟩
           have hb := (HB7.out.setCell (p := ⟨D, 0, none⟩) (show w.heap.size ≤ D by omega) (.int .i64 m)).setCell (p := ⟨D, 0 + 1, none⟩) (show w.heap.size ≤ D by omega) (.pointer (some ⟨wc.heap.size, 0, none⟩))
           exact hb.alloc hb.size _
          have HZ := Aside0.mk hZ
          clear hZ
          go_wp2_with (go_at_call 100; refine (less101 D 0 (S i j).1 m (.pointer pc) g h p1 p2 wc d0 d1 fd0 fd1 h3 x1 z1).mono ?_; rintro e w3 ⟨rfl, hw3⟩; obtain ⟨k1, k2, k3, k4, k5⟩ := HZ.out w3 hw3; have m0 : w3.cell? ⟨D, 0, none⟩ = some (.int .i64 m) := (cell_of k1 0).trans rfl; have m1 : w3.cell? ⟨D, 1, none⟩ = some (.pointer (some ⟨wc.heap.size, 0, none⟩)) := (cell_of k1 1).trans rfl; have n0 : w3.cell? ⟨R, 0, none⟩ = some (.int .i64 0) := (cell_of k2 0).trans rfl; have n1 : w3.cell? ⟨R, 1, none⟩ = some (.pointer none) := (cell_of k2 1).trans rfl; have n2 : w3.frozen? ⟨R, 0, none⟩ = false := blk_frozen k2 0; have n3 : w3.frozen? ⟨R, 1, none⟩ = false := blk_frozen k2 1; have K2 := Aside0.mk k2; have K3 := Aside0.mk k3; have K4 := Aside0.mk k4; have K5 := Aside0.mk k5; clear hw3 k1 k2 k3 k4 k5)
          generalize wc.heap.size = z at *
          refine bodyPost_ret (v := .agg #[.int .i64 m, .pointer (some ⟨z, 0, none⟩)]) (results_cell_row rfl _ _ R 102 #[.int .i64 m, .pointer (some ⟨z, 0, none⟩)] (0, 0) _ rfl (res2 K2.out _ _) Try.underlying102 rfl info102) rfl ?_
          have hN := HRR.out
          refine ⟨(K3.out.setCell (show w.heap.size ≤ R by omega) _).setCell (show w.heap.size ≤ R by omega) _, some ⟨z, 0, none⟩, by rw [HM3.out], fun hT => ?_⟩
          rw [HM3.out]
          have g1 := blk_set K2.out 0 (.int .i64 m)
          have hst := (Stays.setCell (off := 0) K2.out (by decide) (.int .i64 m)).trans (Stays.setCell (off := 1) g1 (by decide) (.pointer (some ⟨z, 0, none⟩)))
          have hw1 := HV1.out
          have hw2 := HV2.out
          cases ht1 : (T i).2 with
          | none => exact (hT i hi H12.out.1 ht1).elim
          | some t1 =>
           cases ht2 : (T (oth j)).2 with
           | none => exact (hT (oth j) (oth_lt hj) H12.out.2 ht2).elim
           | some t2 =>
            rw [ht1] at hw1
            rw [ht2] at hw2
            obtain ⟨g1', e1, D1⟩ := hw1
            obtain ⟨g2', e2, D2⟩ := hw2
            cases e1
            cases e2
            exact ⟨z, rfl, g1', g2', hst z _ K5.out, (D1.stays K4.out).stays hst, (D2.stays K4.out).stays hst⟩
        · have HM3 : Aside0 (ofM S T a = S i j) := ⟨by rw [HEQ.out, if_neg (fun h => h3 h.2.2)]⟩
          clear h1 h2
          generalize wrap64 ((T i).1 + (T (oth j)).1) = m at *
          go_wp2_with (go_at_call 100; refine (less_no D 0 (S i j).1 m _ wc d0 (by omega)).mono ?_; rintro e w3 ⟨rfl, rfl⟩)
          refine bodyPost_ret (v := .agg #[.int .i64 (S i j).1, .pointer pc]) (results_cell_row rfl _ _ R 102 #[.int .i64 (S i j).1, .pointer pc] (0, 0) _ rfl (res2 HR7.out _ _) Try.underlying102 rfl info102) rfl ?_
          have hN := HRR.out
          refine ⟨(HB7.out.setCell (show w.heap.size ≤ R by omega) _).setCell (show w.heap.size ≤ R by omega) _, pc, by rw [HM3.out], fun _ => ?_⟩
          rw [HM3.out]
          have g1 := blk_set HR7.out 0 (.int .i64 (S i j).1)
          exact HVC.out.stays ((Stays.setCell HR7.out (by decide) _).trans (Stays.setCell g1 (by decide) _))
      · have b2 : decide ((T (oth j)).1 < 1152921504606846976) = false := decide_eq_false h2
        have HM3 : Aside0 (ofM S T a = S i j) := ⟨by rw [HEQ.out, if_neg (fun h => h2 h.2.1)]⟩
        clear h1 h2
        go_wp2_with fail
        refine bodyPost_ret (v := .agg #[.int .i64 (S i j).1, .pointer pc]) (results_cell_row rfl _ _ R 102 #[.int .i64 (S i j).1, .pointer pc] (0, 0) _ rfl (res2 HR7.out _ _) Try.underlying102 rfl info102) rfl ?_
        have hN := HRR.out
        refine ⟨(HB7.out.setCell (show w.heap.size ≤ R by omega) _).setCell (show w.heap.size ≤ R by omega) _, pc, by rw [HM3.out], fun _ => ?_⟩
        rw [HM3.out]
        have g1 := blk_set HR7.out 0 (.int .i64 (S i j).1)
        exact HVC.out.stays ((Stays.setCell HR7.out (by decide) _).trans (Stays.setCell g1 (by decide) _))
    · have b1 : decide ((T i).1 < 1152921504606846976) = false := decide_eq_false h1
      have HM3 : Aside0 (ofM S T a = S i j) := ⟨by rw [HEQ.out, if_neg (fun h => h1 h.1)]⟩
      clear h1
      go_wp2_with fail
      refine bodyPost_ret (v := .agg #[.int .i64 (S i j).1, .pointer pc]) (results_cell_row rfl _ _ R 102 #[.int .i64 (S i j).1, .pointer pc] (0, 0) _ rfl (res2 HR7.out _ _) Try.underlying102 rfl info102) rfl ?_
      have hN := HRR.out
      refine ⟨(HB7.out.setCell (show w.heap.size ≤ R by omega) _).setCell (show w.heap.size ≤ R by omega) _, pc, by rw [HM3.out], fun _ => ?_⟩
      rw [HM3.out]
      have g1 := blk_set HR7.out 0 (.int .i64 (S i j).1)
      exact HVC.out.stays ((Stays.setCell HR7.out (by decide) _).trans (Stays.setCell g1 (by decide) _))
end Go.Proofs.Ytmoiickbgokloaa.PA
