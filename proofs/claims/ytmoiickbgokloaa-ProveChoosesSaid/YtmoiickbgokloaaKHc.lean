/- Contracts by hand: bounds.lines puts lines into bounds. -/
import Derived.StillTailTactics
import Derived.Test.YtmoiickbgokloaaKMem
import Derived.Test.YtmoiickbgokloaaKHb
namespace Go.Proofs.Ytmoiickbgokloaa.PA
open Go.RowKit Go.Proofs.YtmoiickbgokloaaW.PrintWords Go.Proofs.YtmoiickbgokloaaW.PrintLast Go.Proofs.YtmoiickbgokloaaW.PrintMore Go.Proofs.Ytmoiickbgokloaa.Utv
set_option linter.unusedVariables false
set_option linter.unusedSimpArgs false
theorem endI_nat {k s : Int} (h0 : 0 ≤ k) : endI k s = (endN k s : Int) := by
 unfold endN; have : 0 ≤ endI k s := by unfold endI; split <;> omega
 omega
set_option maxRecDepth 100000 in
set_option maxHeartbeats 1000000 in
theorem end_same (k s : Int) (w : World) (h0 : 0 ≤ k) (h1 : k ≤ 12) :
 Calls Try.prog 63 #[.int .i64 k, .int .i64 s] w fun e w' => e = .returned (.int .i64 (endN k s : Nat)) ∧ w = w' := by
 rw [← endI_nat h0]
 by_cases hs : 0 < s
 · have e : endI k s = 2 * k := by unfold endI; rw [if_pos hs]
   rw [e]; clear e
   go_enter Try.func63, Try.ntmps63
   go_wp2
   go_ret
   exact ⟨rfl, rfl⟩
 · have e : endI k s = 2 * k + 1 := by unfold endI; rw [if_neg hs]
   rw [e]; clear e
   go_enter Try.func63, Try.ntmps63
   go_wp2
   go_ret
   exact ⟨rfl, rfl⟩
theorem xor_oth : ∀ a : Nat, a < 64 → Go.bits .xor .i64 (a : Int) 1 = (oth a : Int) := by decide +kernel
set_option maxRecDepth 100000 in
set_option maxHeartbeats 1000000 in
theorem other_same (a : Nat) (w : World) (h1 : a < 64) :
 Calls Try.prog 96 #[.int .i64 a] w fun e w' => e = .returned (.int .i64 (oth a : Nat)) ∧ w = w' := by
 have e := xor_oth a h1
 go_enter Try.func96, Try.ntmps96
 go_wp2
 go_ret
 exact ⟨rfl, rfl⟩
theorem other_still (a : Nat) (w : World) (h1 : a < 64) : Calls Try.prog 96 #[.int .i64 a] w fun e w' => e = .returned (.int .i64 (oth a : Nat)) ∧ w' = w :=
 (other_same a w h1).mono fun _ _ h => ⟨h.1, h.2.symm⟩
theorem pick0 (p q r s : Int) (w : World) : (Instr.index 171 (.agg #[.int .i64 p, .int .i64 q, .int .i64 r, .int .i64 s]) (.int .i64 0)).run Try.prog w = .ok (.agg #[.int .i64 p, .int .i64 q]) w := by kernel_rfl
theorem pick1 (p q r s : Int) (w : World) : (Instr.index 171 (.agg #[.int .i64 p, .int .i64 q, .int .i64 r, .int .i64 s]) (.int .i64 1)).run Try.prog w = .ok (.agg #[.int .i64 r, .int .i64 s]) w := by kernel_rfl
/-- The first k bounds (row by row) are far. -/
def iniS (k : Nat) : Mt := fun p q => (if p * 24 + q < k then far else 0, none)
set_option maxRecDepth 100000 in
set_option maxHeartbeats 2000000 in
theorem lines_calls (B n : Nat) (A : Option Addr) (c : Nat) (l : List S24) (w : World) (hn : n ≤ 12) (hr : Rts n l) (hl : Kd.C k24 w A l.length l) (hc : l.length ≤ c) (hll : l.length ≤ 100) (hm : Mat w B (fun _ _ => (0, none)))  (hab : ∀ ad, A = some ad → 0 < l.length → ad.block ≠ B) :
 Calls Try.prog 94 #[.pointer (some ⟨B, 0, none⟩), .slice A l.length c] w fun e w' => e = .returned (.tuple #[]) ∧ Aside0 (Mat w' B (linesS l l.length)) ∧ Aside0 (w.grownBy w' (some B)) := by
 have hu24 := Try.underlying24
 have hu147 := Try.underlying147
 have hu103 := Try.underlying103
 have hu102 := Try.underlying102
 have HL := Aside0.mk hl
 have HM := Aside0.mk hm
 have HA := Aside0.mk hab
 clear hl hm hab
 go_enter Try.func94, Try.ntmps94
 go_wp2_with fail
 go_loopw [13] (fun v wr => ∃ x : Int, v = .int .i64 x ∧ 0 ≤ x ∧ x ≤ 24 ∧ Aside0 (Mat wr B (iniS (x.toNat * 24))) ∧ Aside0 (w.grownBy wr (some B))) (fun v _ => 24 - (intOf v).toNat)
 case atStart =>
  refine ⟨0, rfl, by omega, by omega, ⟨?_⟩, ⟨World.grownBy.refl _ _⟩⟩
  have : iniS (0 * 24) = fun _ _ => (0, none) := by funext p q; unfold iniS; rw [if_neg (by omega)]
  show Mat w B (iniS (0 * 24))
  rw [this]; exact HM.out
 case round =>
  obtain ⟨i, rfl, h0, h1, HR, HG⟩ := hrel
  by_cases hx : i < 24
  · go_wp2_with fail
    obtain ⟨wo, rfl⟩ : ∃ wo : World, wo = wr := ⟨_, rfl⟩
    go_loopw [16] (fun v wr => ∃ x : Int, v = .int .i64 x ∧ 0 ≤ x ∧ x ≤ 24 ∧ Aside0 (Mat wr B (iniS (i.toNat * 24 + x.toNat))) ∧ Aside0 (w.grownBy wr (some B))) (fun v _ => 24 - (intOf v).toNat)
    case atStart => exact ⟨0, rfl, by omega, by omega, HR, HG⟩
    case round =>
     obtain ⟨j, rfl, h2, h3, HR2, HG2⟩ := hrel
     by_cases hy : j < 24
     · have k0 := HR2.out.cell0 (i := i.toNat) (j := j.toNat) (by omega) (by omega)
       have k1 := HR2.out.froz (i.toNat * 48 + j.toNat * 2)
       go_wp2_with fail
       go_roundw
       case rel =>
        refine ⟨j + 1, by go_num, by omega, by omega, ⟨?_⟩, ⟨HG2.out.trans (grown_setCell _ _ _ _)⟩⟩
        have := HR2.out.set1 (i := i.toNat) (j := j.toNat) (by omega) (by omega) (m := far)
        refine this.congr fun p q hp hq => ?_
        unfold Mt.set iniS
        by_cases e : p = i.toNat ∧ q = j.toNat
        · obtain ⟨rfl, rfl⟩ := e
          have hlt : i.toNat * 24 + j.toNat < i.toNat * 24 + (j + 1).toNat := by omega
          rw [if_pos ⟨rfl, rfl⟩, if_pos hlt]
        · rw [if_neg e]
          by_cases h : p * 24 + q < i.toNat * 24 + j.toNat
          · rw [if_pos h, if_pos (by omega)]
          · rw [if_neg h, if_neg (by omega)]
       case measure => simp [intOf]; omega
     · go_wp2_with fail
       go_roundw
       case rel =>
        refine ⟨i + 1, by go_num, by omega, by omega, ⟨?_⟩, HG2⟩
        have : i.toNat * 24 + j.toNat = (i + 1).toNat * 24 := by omega
        rw [← this]; exact HR2.out
       case measure => simp [intOf]; omega
  · obtain rfl : i = 24 := by omega
    have HR0 : Aside0 (Mat wr B (linesS l 0)) := ⟨HR.out.congr fun p q hp hq => by unfold linesS initS iniS; rw [if_pos (by show p * 24 + q < 24 * 24; omega)]⟩
    clear HR
    go_wp2_with fail
    obtain ⟨wo, rfl⟩ : ∃ wo : World, wo = wr := ⟨_, rfl⟩
    go_loopw [30] (fun v wr => ∃ x : Int, v = .int .i64 x ∧ 0 ≤ x ∧ x ≤ l.length ∧ Aside0 (Mat wr B (linesS l x.toNat)) ∧ Aside0 (w.grownBy wr (some B))) (fun v _ => l.length - (intOf v).toNat)
    case atStart => exact ⟨0, rfl, by omega, by omega, HR0, HG⟩
    case round =>
     clear HR0 HG
     obtain ⟨k, rfl, h2, h3, HR, HG⟩ := hrel
     by_cases hy : k < (l.length : Int)
     · obtain ⟨ad, e, hx0, hx1, hx2, hx3, hx4⟩ := at_T24 HL.out k h2 hy
       cases e
       have hne := HA.out ad rfl (by omega)
       have gc : ∀ (p : Addr) (v : Value), p.block = ad.block → w.cell? p = some v → wr.cell? p = some v := fun p v e h => HG.out.cell h (by rw [e]; intro hh; injection hh with hh; exact hne hh)
       replace hx0 := gc _ _ (by unfold Addr.add; split <;> rfl) hx0
       replace hx1 := gc _ _ (by unfold Addr.add; split <;> rfl) hx1
       replace hx2 := gc _ _ (by unfold Addr.add; split <;> rfl) hx2
       replace hx3 := gc _ _ (by unfold Addr.add; split <;> rfl) hx3
       replace hx4 := gc _ _ (by unfold Addr.add; split <;> rfl) hx4
       clear gc
       go_upto_region 13 with (fail)
       obtain ⟨x, hxe⟩ : ∃ x, x = rd_T24 l k := ⟨_, rfl⟩
       have hg : l[k.toNat]? = some x := by
        rw [hxe]; unfold rd_T24; rw [List.getD_eq_getElem?_getD, List.getElem?_eq_getElem (by omega)]; rfl
       have r := hr x (List.mem_of_getElem? hg)
       have HS : Aside0 (linesS l (k + 1).toNat = lineS (linesS l k.toNat) k.toNat x) := ⟨by
        have : (k + 1).toNat = k.toNat + 1 := by omega
        rw [this, hxe]; rfl⟩
       have HK : Aside0 (Drv wr (.line k.toNat) 0 → True) := ⟨fun _ => trivial⟩
       rw [← hxe]
       clear hxe hx0 hx1 hx2 hx3 hx4 hg
       obtain ⟨W, hW⟩ : ∃ W, W = (((wr.alloc (.cells #[.int .i64 x.f0, .int .i64 x.f1, .int .i64 x.f2, .int .i64 x.f3, .int .i64 x.f4] 24)).alloc (.cells #[.int .i64 1, .int .i64 k, .pointer none, .pointer none] 164)).alloc (.cells #[.pointer (some ⟨wr.heap.size + 1, 0, none⟩)] 100)) := ⟨_, rfl⟩
       rw [← hW]
       have HX : Aside0 (W.heap[wr.heap.size]? = some (.cells #[.int .i64 x.f0, .int .i64 x.f1, .int .i64 x.f2, .int .i64 x.f3, .int .i64 x.f4] 24 (0, 0))) := ⟨by rw [hW]; exact heap3_0 _ _ _ _⟩
       have q0 : W.cell? ⟨wr.heap.size, 0, none⟩ = some (.int .i64 x.f0) := (cell_of HX.out 0).trans rfl
       have q1 : W.cell? ⟨wr.heap.size, 1, none⟩ = some (.int .i64 x.f1) := (cell_of HX.out 1).trans rfl
       have q2 : W.cell? ⟨wr.heap.size, 2, none⟩ = some (.int .i64 x.f2) := (cell_of HX.out 2).trans rfl
       have q3 : W.cell? ⟨wr.heap.size, 3, none⟩ = some (.int .i64 x.f3) := (cell_of HX.out 3).trans rfl
       have q4 : W.cell? ⟨wr.heap.size, 4, none⟩ = some (.int .i64 x.f4) := (cell_of HX.out 4).trans rfl
       have qp : W.cell? ⟨wr.heap.size + 1 + 1, 0, none⟩ = some (.pointer (some ⟨wr.heap.size + 1, 0, none⟩)) := (cell_of (by rw [hW]; exact heap3_2 _ _ _ _) 0).trans rfl
       have HD : Aside0 (Drv W (.line k.toNat) (wr.heap.size + 1)) := ⟨by
        show W.heap[wr.heap.size + 1]? = _
        rw [hW, Int.toNat_of_nonneg h2]; exact heap3_1 _ _ _ _⟩
       have HMW : Aside0 (Mat W B (linesS l k.toNat)) := ⟨by rw [hW]; exact ((HR.out.alloc _).alloc _).alloc _⟩
       have HGW : Aside0 (w.grownBy W (some B)) := ⟨by rw [hW]; exact ((HG.out.trans (grown_alloc _ _ _)).trans (grown_alloc _ _ _)).trans (grown_alloc _ _ _)⟩
       have a0 := r.a0
       have a1 := r.a1
       have hi := endN_lt (s := x.f1) r.a0 r.a1
       have HB2 : Aside0 (wr.heap.size + 1 + 1 ≠ B) := ⟨by have := HR.out.lt; omega⟩
       clear hW HR HG HK
       generalize wr.heap.size = gx at *
       by_cases hq : x.f3 = 0
       · replace HS : Aside0 (linesS l (k + 1).toNat = (linesS l k.toNat).less (endN x.f0 x.f1) (oth (endN x.f0 x.f1)) (2 * x.f4) (.sum (.line k.toNat) (.line k.toNat))) := ⟨by rw [HS.out]; unfold lineS; rw [if_pos hq]⟩
         have hqb : (x.f3 == 0) = true := beq_iff_eq.mpr hq
         go_upto_region 15 with (go_at_call 63; refine (end_same x.f0 x.f1 _ a0 (by omega)).mono ?_; rintro e w1 ⟨rfl, rfl⟩)
         have ha : endN x.f0 x.f1 < 24 := by omega
         generalize endN x.f0 x.f1 = a at *
         have hb : oth a < 24 := oth_lt (n := 12) ha
         have hai : (a : Int) < 24 := by omega
         have hbi : ((oth a : Nat) : Int) < 24 := by omega
         have hmul : IntKind.i64.wrap (2 * x.f4) = 2 * x.f4 := (i64_w _).trans (by have := r.m0; have := r.m1; unfold wrap64; omega)
         obtain ⟨V, hV⟩ : ∃ V, V = W.drew := ⟨_, rfl⟩
         replace q4 : V.cell? ⟨gx, 4, none⟩ = some (.int .i64 x.f4) := by rw [hV]; exact q4
         replace qp : V.cell? ⟨gx + 1 + 1, 0, none⟩ = some (.pointer (some ⟨gx + 1, 0, none⟩)) := by rw [hV]; exact qp
         replace HD : Aside0 (Drv V (.line k.toNat) (gx + 1)) := ⟨by rw [hV]; exact HD.out.stays (Stays.drew W)⟩
         replace HMW : Aside0 (Mat V B (linesS l k.toNat)) := ⟨by rw [hV]; exact HMW.out.drew⟩
         replace HGW : Aside0 (w.grownBy V (some B)) := ⟨by rw [hV]; exact HGW.out.trans (grown_drew W B)⟩
         refine wp_region_still_tail 11 (by kernel_rfl) (by kernel_rfl) ?_
         simp only [List.take_succ_cons, List.take_zero, List.drop_succ_cons, List.drop_zero]
         change wpStill _ _ W.drew _ _ _
         rw [← hV]
         have HV := Aside0.mk hV
         clear hV HX q0 q1 q2 q3
         still_step
         still_step
         still_step
         still_call (other_still a V (by omega))
         still_step
         still_step
         still_step
         still_step
         still_step
         still_step
         still_step
         refine wpStill_nil ?_
         change wpList _ _ _ _ _ W.drew
         rw [← HV.out]
         clear HV q4
         have c0 := HMW.out.cell0 ha hb
         obtain ⟨y0, c1, _⟩ := HMW.out.cell1 ha hb
         have f0 := HMW.out.froz (a * 48 + oth a * 2)
         have f1 := HMW.out.froz (a * 48 + oth a * 2 + 1)
         by_cases hlt : 2 * x.f4 < (linesS l k.toNat a (oth a)).1
         · go_wp2_with (go_at_call 100; refine (less113 B (a * 48 + oth a * 2) _ (2 * x.f4) y0 ⟨gx + 1 + 1, 0, none⟩ (some ⟨gx + 1, 0, none⟩) V c0 c1 f0 f1 hlt qp).mono ?_; rintro e w3 ⟨rfl, rfl⟩)
           go_roundw
           case rel =>
            refine ⟨k + 1, by go_num, by omega, by omega, ⟨?_⟩, ⟨(HGW.out.trans (grown_set2 _ _ _ _ _ _)).trans (grown_alloc _ _ _)⟩⟩
            rw [HS.out, less_pos hlt]
            exact HMW.out.setSum ha hb _ HD.out HD.out
           case measure => simp [intOf]; omega
         · go_wp2_with (go_at_call 100; refine (less_no B (a * 48 + oth a * 2) _ (2 * x.f4) _ V c0 (by omega)).mono ?_; rintro e w3 ⟨rfl, rfl⟩)
           go_roundw
           case rel =>
            refine ⟨k + 1, by go_num, by omega, by omega, ⟨?_⟩, HGW⟩
            rw [HS.out, less_neg (show ¬ 2 * x.f4 < (linesS l k.toNat a (oth a)).1 by omega)]
            exact HMW.out
           case measure => simp [intOf]; omega
       · obtain ⟨h3q, b0, b1, hab⟩ : (x.f3 = 1 ∨ x.f3 = -1) ∧ 0 ≤ x.f2 ∧ x.f2 < n ∧ x.f2 ≠ x.f0 := r.q.resolve_left (fun h => hq h.1)
         replace HS : Aside0 (linesS l (k + 1).toNat = ((linesS l k.toNat).less (endN x.f0 x.f1) (endN x.f2 (-x.f3)) x.f4 (.line k.toNat)).less (oth (endN x.f2 (-x.f3))) (oth (endN x.f0 x.f1)) x.f4 (.line k.toNat)) := ⟨by rw [HS.out]; unfold lineS; rw [if_neg hq]⟩
         have hqb : (x.f3 == 0) = false := beq_eq_false_iff_ne.mpr hq
         have hneg : IntKind.i64.wrap (-x.f3) = -x.f3 := (i64_w _).trans (by unfold wrap64; omega)
         have hj := endN_lt (s := -x.f3) b0 b1
         have ha : endN x.f0 x.f1 < 24 := by omega
         have hc2 : endN x.f2 (-x.f3) < 24 := by omega
         clear hi hj
         go_upto_region 17 with (go_at_call 63; first | ((with_reducible refine (end_same x.f0 x.f1 _ a0 (by omega)).mono ?_); rintro e w1 ⟨rfl, rfl⟩) | ((with_reducible refine (end_same x.f2 (-x.f3) _ b0 (by omega)).mono ?_); rintro e w1 ⟨rfl, rfl⟩))
         have HB1 : Aside0 (gx ≠ B) := ⟨by obtain ⟨C, hC⟩ := HMW.out.typed; exact blk_ne HX.out hC (by decide)⟩
         have hp0 := pick0
         have hp1 := pick1
         clear HX q0 q1 q2 q3
         generalize endN x.f0 x.f1 = a at *
         generalize endN x.f2 (-x.f3) = b at *
         have ha2 : oth a < 24 := oth_lt (n := 12) ha
         have hb2 : oth b < 24 := oth_lt (n := 12) hc2
         go_wp2_with (go_at_call 96; first | ((with_reducible refine (other_same a _ (by omega)).mono ?_); rintro e w1 ⟨rfl, rfl⟩) | ((with_reducible refine (other_same b _ (by omega)).mono ?_); rintro e w1 ⟨rfl, rfl⟩))
         go_loopw [73] (fun v wz => ∃ z : Int, v = .int .i64 z ∧ 0 ≤ z ∧ z ≤ 2 ∧ Aside0 (Mat wz B (if z = 0 then linesS l k.toNat else if z = 1 then (linesS l k.toNat).less a b x.f4 (.line k.toNat) else linesS l (k + 1).toNat)) ∧ Aside0 (W.grownBy wz (some B))) (fun v _ => 2 - (intOf v).toNat)
         case atStart => exact ⟨0, rfl, by omega, by omega, ⟨by rw [if_pos rfl]; exact HMW.out⟩, ⟨World.grownBy.refl _ _⟩⟩
         case round =>
          obtain ⟨z, rfl, z0, z1, HMZ, HGZ⟩ := hrel
          rcases (show z = 0 ∨ z = 1 ∨ z = 2 by omega) with rfl | rfl | rfl
          · have HS0 : Aside0 (Mat wr B (linesS l k.toNat)) := ⟨HMZ.out⟩
            clear HMZ
            go_upto_region 20 with (fail)
            obtain ⟨V, hV⟩ : ∃ V, V = (wr.alloc (.cells #[.int .i64 (a : Nat), .int .i64 (b : Nat)] 170)).drew := ⟨_, rfl⟩
            have t0 : V.cell? ⟨wr.heap.size, 0, none⟩ = some (.int .i64 (a : Nat)) := by rw [hV]; exact (cell_of (blk_drew (heap1_0 _ _)) 0).trans rfl
            have t1 : V.cell? ⟨wr.heap.size, 1, none⟩ = some (.int .i64 (b : Nat)) := by rw [hV]; exact (cell_of (blk_drew (heap1_0 _ _)) 1).trans rfl
            have HGV : Aside0 (W.grownBy V (some B)) := ⟨by rw [hV]; exact (HGZ.out.trans (grown_alloc _ _ _)).trans (grown_drew _ _)⟩
            have HSV : Aside0 (Mat V B (linesS l k.toNat)) := ⟨by rw [hV]; exact (HS0.out.alloc _).drew⟩
            have q4V : V.cell? ⟨gx, 4, none⟩ = some (.int .i64 x.f4) := HGV.out.cell q4 (fun e => HB1.out (Option.some.inj e))
            have qpV : V.cell? ⟨gx + 1 + 1, 0, none⟩ = some (.pointer (some ⟨gx + 1, 0, none⟩)) := HGV.out.cell qp (fun e => HB2.out (Option.some.inj e))
            have HDV : Aside0 (Drv V (.line k.toNat) (gx + 1)) := ⟨by obtain ⟨C, hC⟩ := HMW.out.typed; exact HD.out.stays (Stays.grown HGV.out hC (by decide))⟩
            have hai : ((a : Nat) : Int) < 24 := by omega
            have hbi : ((b : Nat) : Int) < 24 := by omega
            refine wp_region_still_tail 11 (by kernel_rfl) (by kernel_rfl) ?_
            simp only [List.take_succ_cons, List.take_zero, List.drop_succ_cons, List.drop_zero]
            change wpStill _ _ (World.drew _) _ _ _
            rw [← hV]
            have HV := Aside0.mk hV
            clear hV HS0 HGZ q4 qp
            generalize wr.heap.size = gz at *
            repeat still_step
            refine wpStill_nil ?_
            change wpList _ _ _ _ _ (World.drew _)
            rw [← HV.out]
            clear HV q4V t0 t1
            have c0 := HSV.out.cell0 ha hc2
            obtain ⟨y0, c1, _⟩ := HSV.out.cell1 ha hc2
            have f0 := HSV.out.froz ((a) * 48 + (b) * 2)
            have f1 := HSV.out.froz ((a) * 48 + (b) * 2 + 1)
            by_cases hlt : x.f4 < ((linesS l k.toNat) (a) (b)).1
            · go_wp2_with (go_at_call 100; refine (less114 B ((a) * 48 + (b) * 2) _ x.f4 y0 ⟨gx + 1 + 1, 0, none⟩ (some ⟨gx + 1, 0, none⟩) V c0 c1 f0 f1 hlt qpV).mono ?_; rintro e w3 ⟨rfl, rfl⟩)
              go_roundw
              case rel =>
               refine ⟨1, by go_num, by omega, by omega, ⟨?_⟩, ⟨HGV.out.trans (grown_set2 _ _ _ _ _ _)⟩⟩
               rw [if_neg (by omega), if_pos rfl]
               rw [less_pos hlt]
               exact (HSV.out.set ha hc2 (show Why V (some (.line k.toNat)) (.pointer (some ⟨gx + 1, 0, none⟩)) from ⟨gx + 1, rfl, HDV.out⟩)).1
              case measure => simp [intOf]
            · go_wp2_with (go_at_call 100; refine (less_no B ((a) * 48 + (b) * 2) _ x.f4 _ V c0 (by omega)).mono ?_; rintro e w3 ⟨rfl, rfl⟩)
              go_roundw
              case rel =>
               refine ⟨1, by go_num, by omega, by omega, ⟨?_⟩, HGV⟩
               rw [if_neg (by omega), if_pos rfl]
               rw [less_neg (show ¬ x.f4 < ((linesS l k.toNat) (a) (b)).1 by omega)]
               exact HSV.out
              case measure => simp [intOf]
          · have HS0 : Aside0 (Mat wr B ((linesS l k.toNat).less a b x.f4 (.line k.toNat))) := ⟨HMZ.out⟩
            clear HMZ
            go_upto_region 20 with (fail)
            obtain ⟨V, hV⟩ : ∃ V, V = (wr.alloc (.cells #[.int .i64 (oth b : Nat), .int .i64 (oth a : Nat)] 170)).drew := ⟨_, rfl⟩
            have t0 : V.cell? ⟨wr.heap.size, 0, none⟩ = some (.int .i64 (oth b : Nat)) := by rw [hV]; exact (cell_of (blk_drew (heap1_0 _ _)) 0).trans rfl
            have t1 : V.cell? ⟨wr.heap.size, 1, none⟩ = some (.int .i64 (oth a : Nat)) := by rw [hV]; exact (cell_of (blk_drew (heap1_0 _ _)) 1).trans rfl
            have HGV : Aside0 (W.grownBy V (some B)) := ⟨by rw [hV]; exact (HGZ.out.trans (grown_alloc _ _ _)).trans (grown_drew _ _)⟩
            have HSV : Aside0 (Mat V B ((linesS l k.toNat).less a b x.f4 (.line k.toNat))) := ⟨by rw [hV]; exact (HS0.out.alloc _).drew⟩
            have q4V : V.cell? ⟨gx, 4, none⟩ = some (.int .i64 x.f4) := HGV.out.cell q4 (fun e => HB1.out (Option.some.inj e))
            have qpV : V.cell? ⟨gx + 1 + 1, 0, none⟩ = some (.pointer (some ⟨gx + 1, 0, none⟩)) := HGV.out.cell qp (fun e => HB2.out (Option.some.inj e))
            have HDV : Aside0 (Drv V (.line k.toNat) (gx + 1)) := ⟨by obtain ⟨C, hC⟩ := HMW.out.typed; exact HD.out.stays (Stays.grown HGV.out hC (by decide))⟩
            have hai : ((oth b : Nat) : Int) < 24 := by omega
            have hbi : ((oth a : Nat) : Int) < 24 := by omega
            refine wp_region_still_tail 11 (by kernel_rfl) (by kernel_rfl) ?_
            simp only [List.take_succ_cons, List.take_zero, List.drop_succ_cons, List.drop_zero]
            change wpStill _ _ (World.drew _) _ _ _
            rw [← hV]
            have HV := Aside0.mk hV
            clear hV HS0 HGZ q4 qp
            generalize wr.heap.size = gz at *
            repeat still_step
            refine wpStill_nil ?_
            change wpList _ _ _ _ _ (World.drew _)
            rw [← HV.out]
            clear HV q4V t0 t1
            have c0 := HSV.out.cell0 hb2 ha2
            obtain ⟨y0, c1, _⟩ := HSV.out.cell1 hb2 ha2
            have f0 := HSV.out.froz ((oth b) * 48 + (oth a) * 2)
            have f1 := HSV.out.froz ((oth b) * 48 + (oth a) * 2 + 1)
            by_cases hlt : x.f4 < (((linesS l k.toNat).less a b x.f4 (.line k.toNat)) (oth b) (oth a)).1
            · go_wp2_with (go_at_call 100; refine (less114 B ((oth b) * 48 + (oth a) * 2) _ x.f4 y0 ⟨gx + 1 + 1, 0, none⟩ (some ⟨gx + 1, 0, none⟩) V c0 c1 f0 f1 hlt qpV).mono ?_; rintro e w3 ⟨rfl, rfl⟩)
              go_roundw
              case rel =>
               refine ⟨2, by go_num, by omega, by omega, ⟨?_⟩, ⟨HGV.out.trans (grown_set2 _ _ _ _ _ _)⟩⟩
               rw [if_neg (by omega), if_neg (by omega), HS.out]
               rw [less_pos hlt]
               exact (HSV.out.set hb2 ha2 (show Why V (some (.line k.toNat)) (.pointer (some ⟨gx + 1, 0, none⟩)) from ⟨gx + 1, rfl, HDV.out⟩)).1
              case measure => simp [intOf]
            · go_wp2_with (go_at_call 100; refine (less_no B ((oth b) * 48 + (oth a) * 2) _ x.f4 _ V c0 (by omega)).mono ?_; rintro e w3 ⟨rfl, rfl⟩)
              go_roundw
              case rel =>
               refine ⟨2, by go_num, by omega, by omega, ⟨?_⟩, HGV⟩
               rw [if_neg (by omega), if_neg (by omega), HS.out]
               rw [less_neg (show ¬ x.f4 < (((linesS l k.toNat).less a b x.f4 (.line k.toNat)) (oth b) (oth a)).1 by omega)]
               exact HSV.out
              case measure => simp [intOf]
          · have HS0 : Aside0 (Mat wr B (linesS l (k + 1).toNat)) := ⟨HMZ.out⟩
            clear HMZ
            go_wp2_with fail
            go_roundw
            case rel => exact ⟨k + 1, by go_num, by omega, by omega, HS0, ⟨HGW.out.trans HGZ.out⟩⟩
            case measure => simp [intOf]; omega
     · obtain rfl : k = l.length := by omega
       go_wp2_with fail
       go_end0
       exact ⟨rfl, HR, HG⟩
end Go.Proofs.Ytmoiickbgokloaa.PA
