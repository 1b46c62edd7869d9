/- Contracts by hand: bounds.walk finds the least bounds along ways. -/
import Derived.StillTailTactics
import Derived.BigRegion
import Derived.Test.YtmoiickbgokloaaKMem
import Derived.Test.YtmoiickbgokloaaKHb
namespace Go.Proofs.Ytmoiickbgokloaa.PA
open Go.RowKit Go.Proofs.YtmoiickbgokloaaW.PrintWords Go.Proofs.YtmoiickbgokloaaW.PrintLast Go.Proofs.YtmoiickbgokloaaW.PrintMore Go.Proofs.Ytmoiickbgokloaa.Utv
set_option linter.unusedVariables false
set_option linter.unusedSimpArgs false
/-- What the walk leaves: the least bounds, or a way round that is less than 0. -/
def WalkPost (l : List S24) (n B : Nat) (w : World) (e : Ending) (w' : World) : Prop :=
 w.grownBy w' (some B) ∧ ((e = .returned (.pointer none) ∧ ∃ S, Mat w' B S ∧ Fin l n S) ∨
  ∃ S t vs v d g, Mat w' B S ∧ e = .returned (.pointer (some ⟨g, 0, none⟩)) ∧ Drv w' t g ∧ Tr l t vs v v d ∧ d < 0 ∧ vs.length ≤ 49)
set_option maxRecDepth 100000 in
set_option maxHeartbeats 4000000 in
theorem walk_calls (B n : Nat) (l : List S24) (w : World) (hn : n ≤ 12) (hr : Rts n l) (S0 : Mt) (hm : Mat w B S0) (hi : Inv l n 0 0 0 S0) :
 Calls Try.prog 95 #[.pointer (some ⟨B, 0, none⟩), .int .i64 (n : Nat)] w (WalkPost l n B w) := by
 have hu147 := Try.underlying147
 have hu103 := Try.underlying103
 have hu102 := Try.underlying102
 have HM := Aside0.mk hm
 have HI := Aside0.mk hi
 clear hm hi
 go_enter Try.func95, Try.ntmps95
 go_wp2_with fail
 go_loopw [13] (fun v wr => ∃ k : Nat, v = .int .i64 (k : Nat) ∧ k ≤ 2 * n ∧ Aside0 (∃ S, Mat wr B S ∧ Inv l n k 0 0 S) ∧ Aside0 (w.grownBy wr (some B))) (fun v _ => 2 * n - (intOf v).toNat)
 case atStart => exact ⟨0, rfl, by omega, ⟨S0, HM.out, HI.out⟩, ⟨World.grownBy.refl _ _⟩⟩
 case round =>
  clear HM HI
  obtain ⟨k, rfl, h1, HS, HG⟩ := hrel
  by_cases hk : k < 2 * n
  · have hkb : decide ((k : Int) < 2 * (n : Int)) = true := decide_eq_true (by omega)
    go_wp2_with fail
    obtain ⟨wo, rfl⟩ : ∃ wo : World, wo = wr := ⟨_, rfl⟩
    go_loopw [18] (fun v wr => ∃ i : Nat, v = .int .i64 (i : Nat) ∧ i ≤ 2 * n ∧ Aside0 (∃ S, Mat wr B S ∧ Inv l n k i 0 S) ∧ Aside0 (w.grownBy wr (some B))) (fun v _ => 2 * n - (intOf v).toNat)
    case atStart => exact ⟨0, rfl, by omega, HS, HG⟩
    case round =>
     clear HS HG
     obtain ⟨i, rfl, h2, HS, HG⟩ := hrel
     by_cases hi : i < 2 * n
     · have hib : decide ((i : Int) < 2 * (n : Int)) = true := decide_eq_true (by omega)
       go_wp2_with fail
       obtain ⟨wo2, rfl⟩ : ∃ wo2 : World, wo2 = wr := ⟨_, rfl⟩
       go_loopw [23] (fun v wr => ∃ j : Nat, v = .int .i64 (j : Nat) ∧ j ≤ 2 * n ∧ Aside0 (∃ S, Mat wr B S ∧ Inv l n k i j S) ∧ Aside0 (w.grownBy wr (some B))) (fun v _ => 2 * n - (intOf v).toNat)
       case atStart => exact ⟨0, rfl, by omega, HS, HG⟩
       case round =>
        clear HS HG
        obtain ⟨j, rfl, h3, HS, HG⟩ := hrel
        by_cases hj : j < 2 * n
        · have hjb : decide ((j : Int) < 2 * (n : Int)) = true := decide_eq_true (by omega)
          obtain ⟨S, hM, hI⟩ := HS.out
          clear HS
          have c10 := hM.cell0 (i := i) (j := k) (by omega) (by omega)
          obtain ⟨y1, c11, Y1⟩ := hM.cell1p (i := i) (j := k) (by omega) (by omega)
          have c20 := hM.cell0 (i := k) (j := j) (by omega) (by omega)
          obtain ⟨y2, c21, Y2⟩ := hM.cell1p (i := k) (j := j) (by omega) (by omega)
          have HM := Aside0.mk hM
          have HI := Aside0.mk hI
          have HY1 := Aside0.mk Y1
          have HY2 := Aside0.mk Y2
          clear hM hI Y1 Y2
          have hi24 : (i : Int) < 24 := by omega
          have hj24 : (j : Int) < 24 := by omega
          have hk24 : (k : Int) < 24 := by omega
          go_upto_region 10 with (fail)
          go_cut [8, 9] (fun v8 v9 wc => ∃ g h : Nat, v8 = .pointer (some ⟨g, 0, none⟩) ∧ v9 = .pointer (some ⟨h, 0, none⟩) ∧ Aside0 (wc.heap[g]? = some (.cells #[.int .i64 (S i k).1, .pointer y1] 102 (0, 0))) ∧ Aside0 (wc.heap[h]? = some (.cells #[.int .i64 (S k j).1, .pointer y2] 102 (0, 0))) ∧ Aside0 (Below wr.heap.size wr wc))
          case first =>
           have a1 := cell_alloc1 c10
           have a2 := cell_alloc1 c11
           have a3 := cell_alloc1 c20
           have a4 := cell_alloc1 c21
           have b1 := cell_alloc2 c10
           have b2 := cell_alloc2 c11
           have b3 := cell_alloc2 c20
           have b4 := cell_alloc2 c21
           go_region
           all_goals (go_wp2_with fail; go_meet)
           · exact ⟨wr.heap.size, wr.heap.size + 1, rfl, rfl, ⟨blk_drew (heap2_0 _ _ _)⟩, ⟨blk_drew (heap2_1 _ _ _)⟩, ⟨(((Below.refl _ wr).alloc (Nat.le_refl _) _).alloc (by simp) _).drew⟩⟩
           · exact ⟨wr.heap.size + 1, wr.heap.size, rfl, rfl, ⟨blk_drew (heap2_1 _ _ _)⟩, ⟨blk_drew (heap2_0 _ _ _)⟩, ⟨(((Below.refl _ wr).alloc (Nat.le_refl _) _).alloc (by simp) _).drew⟩⟩
          case rest =>
           obtain ⟨g, h, rfl, rfl, HX, HY, HB⟩ := hcut
           clear c10 c11 c20 c21
           replace HM : Aside0 (Mat wc B S) := ⟨HM.out.below HB.out⟩
           replace HG : Aside0 (w.grownBy wc (some B)) := ⟨HG.out.trans (grown_of_below HB.out _)⟩
           replace HY1 : Aside0 (Why wc (S i k).2 (.pointer y1)) := ⟨HY1.out.stays (Stays.below HB.out rfl)⟩
           replace HY2 : Aside0 (Why wc (S k j).2 (.pointer y2)) := ⟨HY2.out.stays (Stays.below HB.out rfl)⟩
           clear HB
           have x0 : wc.cell? ⟨g, 0, none⟩ = some (.int .i64 (S i k).1) := (cell_of HX.out 0).trans rfl
           have x1 : wc.cell? ⟨g, 1, none⟩ = some (.pointer y1) := (cell_of HX.out 1).trans rfl
           have z0 : wc.cell? ⟨h, 0, none⟩ = some (.int .i64 (S k j).1) := (cell_of HY.out 0).trans rfl
           have z1 : wc.cell? ⟨h, 1, none⟩ = some (.pointer y2) := (cell_of HY.out 1).trans rfl
           by_cases eik : i = k
           · have b0 : ((i : Int) == (k : Int)) = true := beq_iff_eq.mpr (by omega)
             have HN : Aside0 (∃ S, Mat wc B S ∧ Inv l n k i (j + 1) S) := ⟨S, HM.out, HI.out.skip hi hj hk (.inl eik)⟩
             clear eik
             go_wp2_with fail
             go_roundw
             case rel => exact ⟨j + 1, by go_num, by omega, HN, HG⟩
             case measure => simp [intOf]; omega
           have b0 : ((i : Int) == (k : Int)) = false := beq_eq_false_iff_ne.mpr (by omega)
           by_cases ejk : j = k
           · have b1 : ((j : Int) == (k : Int)) = true := beq_iff_eq.mpr (by omega)
             have HN : Aside0 (∃ S, Mat wc B S ∧ Inv l n k i (j + 1) S) := ⟨S, HM.out, HI.out.skip hi hj hk (.inr (.inl ejk))⟩
             clear ejk
             go_wp2_with fail
             go_roundw
             case rel => exact ⟨j + 1, by go_num, by omega, HN, HG⟩
             case measure => simp [intOf]; omega
           have b1 : ((j : Int) == (k : Int)) = false := beq_eq_false_iff_ne.mpr (by omega)
           have E1 := HI.out.right hi hk eik
           have E2 := HI.out.left hj hk ejk
           by_cases f1 : (S i k).1 = far
           · have b2 : ((S i k).1 == 1152921504606846976) = true := beq_iff_eq.mpr f1
             have HN : Aside0 (∃ S, Mat wc B S ∧ Inv l n k i (j + 1) S) := ⟨S, HM.out, HI.out.skip hi hj hk (.inr (.inr (.inl ((E1.far_iff hr).1 f1))))⟩
             clear f1 E1 E2 eik ejk
             go_wp2_with fail
             go_roundw
             case rel => exact ⟨j + 1, by go_num, by omega, HN, HG⟩
             case measure => simp [intOf]; omega
           have b2 : ((S i k).1 == 1152921504606846976) = false := beq_eq_false_iff_ne.mpr f1
           by_cases f2 : (S k j).1 = far
           · have b3 : ((S k j).1 == 1152921504606846976) = true := beq_iff_eq.mpr f2
             have HN : Aside0 (∃ S, Mat wc B S ∧ Inv l n k i (j + 1) S) := ⟨S, HM.out, HI.out.skip hi hj hk (.inr (.inr (.inr ((E2.far_iff hr).1 f2))))⟩
             clear f1 f2 E1 E2 eik ejk
             go_wp2_with fail
             go_roundw
             case rel => exact ⟨j + 1, by go_num, by omega, HN, HG⟩
             case measure => simp [intOf]; omega
           have b3 : ((S k j).1 == 1152921504606846976) = false := beq_eq_false_iff_ne.mpr f2
           obtain ⟨t1, ht1⟩ : ∃ t, (S i k).2 = some t := by
            cases ht : (S i k).2 with
            | none => exact (f1 ((E1.far_iff hr).2 ht)).elim
            | some t => exact ⟨t, rfl⟩
           obtain ⟨t2, ht2⟩ : ∃ t, (S k j).2 = some t := by
            cases ht : (S k j).2 with
            | none => exact (f2 ((E2.far_iff hr).2 ht)).elim
            | some t => exact ⟨t, rfl⟩
           obtain ⟨m10, m11⟩ := E1.le_far hr
           obtain ⟨m20, m21⟩ := E2.le_far hr
           replace m11 := m11.resolve_left f1
           replace m21 := m21.resolve_left f2
           have hw1 := HY1.out
           have hw2 := HY2.out
           rw [ht1] at hw1
           rw [ht2] at hw2
           obtain ⟨d1, e1, D1⟩ := hw1
           obtain ⟨d2, e2, D2⟩ := hw2
           cases e1
           cases e2
           have HD1 := Aside0.mk D1
           have HD2 := Aside0.mk D2
           have HT1 := Aside0.mk ht1
           have HT2 := Aside0.mk ht2
           have HNE := Aside0.mk (And.intro eik ejk)
           clear f1 f2 E1 E2 eik ejk ht1 ht2 D1 D2 HY1 HY2
           by_cases eij : i = j
           · subst eij
             have b4 : ((i : Int) == (i : Int)) = true := beq_iff_eq.mpr rfl
             by_cases hneg : (S i k).1 + (S k i).1 < 0
             · have HF := Aside0.mk (HI.out.found hn hi hk HNE.out.1 HT1.out HT2.out)
               go_wp2_with (go_at_call 115; refine (clos115 g h (some ⟨d1, 0, none⟩) (some ⟨d2, 0, none⟩) wc x1 z1).mono ?_; rintro e w3 ⟨rfl, rfl⟩)
               go_ret
               obtain ⟨vs, hvs, hlen⟩ := HF.out
               refine ⟨HG.out.trans (grown_alloc _ _ _), .inr ⟨S, .sum t1 t2, vs, i, _, wc.heap.size, HM.out.alloc _, rfl, show Drv _ (.sum t1 t2) _ from ⟨d1, d2, heap1_0 _ _, HD1.out.stays (Stays.alloc _ _), HD2.out.stays (Stays.alloc _ _)⟩, hvs, hneg, hlen⟩⟩
             · have HN : Aside0 (∃ S, Mat wc B S ∧ Inv l n k i (i + 1) S) := ⟨S, HM.out, HI.out.round hi hk HNE.out.1 HT1.out HT2.out (by omega)⟩
               go_wp2_with fail
               go_roundw
               case rel => exact ⟨i + 1, by go_num, by omega, HN, HG⟩
               case measure => simp [intOf]; omega
           have b4 : ((i : Int) == (j : Int)) = false := beq_eq_false_iff_ne.mpr (by omega)
           have HN := Aside0.mk (HI.out.less hr hn hi hj hk HNE.out.1 HNE.out.2 eij HT1.out HT2.out)
           clear eij
           go_upto_region 16 with (fail)
           obtain ⟨V, hV⟩ : ∃ V, V = wc.drew := ⟨_, rfl⟩
           have p0 : V.cell? ⟨g, 0, none⟩ = some (.int .i64 (S i k).1) := by rw [hV]; exact x0
           have p1 : V.cell? ⟨g, 1, none⟩ = some (.pointer (some ⟨d1, 0, none⟩)) := by rw [hV]; exact x1
           have r0 : V.cell? ⟨h, 0, none⟩ = some (.int .i64 (S k j).1) := by rw [hV]; exact z0
           have r1 : V.cell? ⟨h, 1, none⟩ = some (.pointer (some ⟨d2, 0, none⟩)) := by rw [hV]; exact z1
           have HMV : Aside0 (Mat V B S) := ⟨by rw [hV]; exact HM.out.drew⟩
           have HGV : Aside0 (w.grownBy V (some B)) := ⟨by rw [hV]; exact HG.out.trans (grown_drew _ _)⟩
           have HE1 : Aside0 (Drv V t1 d1) := ⟨by rw [hV]; exact HD1.out.stays (Stays.drew _)⟩
           have HE2 : Aside0 (Drv V t2 d2) := ⟨by rw [hV]; exact HD2.out.stays (Stays.drew _)⟩
           have HV := Aside0.mk hV
           refine wp_region_still_tail 12 (by kernel_rfl) (by kernel_rfl) ?_
           simp only [List.take_succ_cons, List.take_zero, List.drop_succ_cons, List.drop_zero]
           change wpStill _ _ (World.drew _) _ _ _
           rw [← hV]
           clear hV x0 x1 z0 z1 HX HY HM HG HD1 HD2
           repeat still_step
           refine wpStill_nil ?_
           change wpList _ _ _ _ _ (World.drew _)
           rw [← HV.out]
           clear HV
           have c0 := HMV.out.cell0 (i := i) (j := j) (by omega) (by omega)
           obtain ⟨y0, c1, _⟩ := HMV.out.cell1 (i := i) (j := j) (by omega) (by omega)
           have f0 := HMV.out.froz (i * 48 + j * 2)
           have f1 := HMV.out.froz (i * 48 + j * 2 + 1)
           by_cases hlt : (S i k).1 + (S k j).1 < (S i j).1
           · go_wp2_with (go_at_call 100; refine (less115 B (i * 48 + j * 2) _ ((S i k).1 + (S k j).1) y0 g h (some ⟨d1, 0, none⟩) (some ⟨d2, 0, none⟩) V c0 c1 f0 f1 hlt p1 r1).mono ?_; rintro e w3 ⟨rfl, rfl⟩)
             go_roundw
             case rel =>
              have hN2 := HMV.out.setSum (i := i) (j := j) (by omega) (by omega) ((S i k).1 + (S k j).1) HE1.out HE2.out
              have hN1 := HN.out
              rw [less_pos hlt] at hN1
              first
               | exact ⟨j + 1, by go_num, by omega, ⟨_, hN2, hN1⟩, ⟨(HGV.out.trans (grown_set2 _ _ _ _ _ _)).trans (grown_alloc _ _ _)⟩⟩
               | ((repeat apply Exists.intro); exact ⟨⟨j + 1, by go_num, by omega, ⟨_, hN2, hN1⟩, ⟨(HGV.out.trans (grown_set2 _ _ _ _ _ _)).trans (grown_alloc _ _ _)⟩⟩, rfl⟩)
             case measure => simp [intOf]; omega
           · go_wp2_with (go_at_call 100; refine (less_no B (i * 48 + j * 2) _ ((S i k).1 + (S k j).1) _ V c0 (by omega)).mono ?_; rintro e w3 ⟨rfl, rfl⟩)
             go_roundw
             case rel =>
              have hN1 := HN.out
              rw [less_neg (show ¬ (S i k).1 + (S k j).1 < (S i j).1 by omega)] at hN1
              first
               | exact ⟨j + 1, by go_num, by omega, ⟨_, HMV.out, hN1⟩, HGV⟩
               | ((repeat apply Exists.intro); exact ⟨⟨j + 1, by go_num, by omega, ⟨_, HMV.out, hN1⟩, HGV⟩, rfl⟩)
             case measure => simp [intOf]; omega
        · obtain rfl : j = 2 * n := by omega
          have HN : Aside0 (∃ S, Mat wr B S ∧ Inv l n k (i + 1) 0 S) := ⟨by obtain ⟨S, hM, hI⟩ := HS.out; exact ⟨S, hM, hI.rowEnd⟩⟩
          clear HS
          go_wp2_with fail
          go_roundw
          case rel => exact ⟨i + 1, by go_num, by omega, HN, HG⟩
          case measure => simp [intOf]; omega
     · obtain rfl : i = 2 * n := by omega
       have HN : Aside0 (∃ S, Mat wr B S ∧ Inv l n (k + 1) 0 0 S) := ⟨by obtain ⟨S, hM, hI⟩ := HS.out; exact ⟨S, hM, hI.colEnd hr hk⟩⟩
       clear HS
       go_wp2_with fail
       go_roundw
       case rel => exact ⟨k + 1, by go_num, by omega, HN, HG⟩
       case measure => simp [intOf]; omega
  · obtain rfl : k = 2 * n := by omega
    go_wp2_with fail
    go_ret
    obtain ⟨S, hM, hI⟩ := HS.out
    exact ⟨HG.out, .inl ⟨rfl, S, hM, hI.fin⟩⟩
end Go.Proofs.Ytmoiickbgokloaa.PA
