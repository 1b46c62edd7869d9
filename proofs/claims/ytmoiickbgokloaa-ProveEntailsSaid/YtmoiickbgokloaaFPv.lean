/- Contracts by hand: prove.Prove. -/
import Derived.Test.YtmoiickbgokloaaFMs
import Derived.Test.YtmoiickbgokloaaFPp
namespace Go.Proofs.Ytmoiickbgokloaa.PA
open Go.RowKit Go.Proofs.YtmoiickbgokloaaW.PrintWords Go.Proofs.YtmoiickbgokloaaW.PrintLast Go.Proofs.YtmoiickbgokloaaW.PrintMore Go.Proofs.Ytmoiickbgokloaa.Utv
set_option linter.unusedVariables false
set_option linter.unusedSimpArgs false
theorem of_line (n B : Nat) (C : Array Value) (S : Mt) (T : Nat → Int × Option Tree) (no : Option Addr) (l : List S24) (a : S24) (w : World) (hn : n ≤ 12) (hr : Rts n l) (hok : ShutOk l n S T) (r : Rt n a) (hC : Clo w C n B T no) (hM : Mat w B S) (v : Int) (hv : (ofM S T a).1 = v) (hm : v ≤ a.f4) :
 Calls Try.prog 58 #[.agg C, .agg #[.int .i64 a.f0, .int .i64 a.f1, .int .i64 a.f2, .int .i64 a.f3, .int .i64 a.f4]] w fun e w' => Below w.heap.size w w' ∧ ∃ g t, e = .returned (.agg #[.int .i64 v, .pointer (some ⟨g, 0, none⟩)]) ∧ Aside0 (Drv w' t g) ∧ Aside0 (LineT l a t) :=
 (of_calls n B C S T no a w hn r hC hM).mono fun e w' ⟨hb, p, he, hw⟩ => by
  obtain ⟨t, ht, hT⟩ := ShutOk.line hr hn hok r (by omega)
  have hw' := hw (hok.tops hr)
  rw [ht] at hw'
  obtain ⟨g, e1, hd⟩ := hw'
  cases e1
  exact ⟨hb, g, t, hv ▸ he, ⟨hd⟩, ⟨hT⟩⟩
theorem of_any (n B : Nat) (C : Array Value) (S : Mt) (T : Nat → Int × Option Tree) (no : Option Addr) (a : S24) (w : World) (hn : n ≤ 12) (r : Rt n a) (hC : Clo w C n B T no) (hM : Mat w B S) :
 Calls Try.prog 58 #[.agg C, .agg #[.int .i64 a.f0, .int .i64 a.f1, .int .i64 a.f2, .int .i64 a.f3, .int .i64 a.f4]] w fun e w' => Below w.heap.size w w' ∧ ∃ v p, e = .returned (.agg #[.int .i64 v, .pointer p]) :=
 (of_calls n B C S T no a w hn r hC hM).mono fun e w' ⟨hb, p, he, _⟩ => ⟨hb, _, p, he⟩
set_option maxRecDepth 100000 in
set_option maxHeartbeats 2000000 in
theorem prove_none (n : Nat) (A : Option Addr) (c : Nat) (l : List S24) (a : S24) (w : World) (hr : Kd.C k24 w A l.length l) (hc : l.length ≤ c) (hk : checkE n l = 0 ∧ rightB n a = true) (hs : satB l = true) (v : Int) (hv : topV l a = v) (hm : decide (v ≤ a.f4) = false) :
 Calls Try.prog 34 #[.int .i64 (n : Nat), .slice A l.length c, .agg #[.int .i64 a.f0, .int .i64 a.f1, .int .i64 a.f2, .int .i64 a.f3, .int .i64 a.f4]] w fun e w' => e = .returned (.tuple #[.slice none 0 0, .bool false, .int .i64 0]) ∧ Below w.heap.size w w' := by
 have hu105 := Try.underlying105
 have hu24 := Try.underlying24
 have hu102 := Try.underlying102
 obtain ⟨h1, h2, h3, h4⟩ := check_ok hk.1
 have r := rt_of_right hk.2
 have HR := Aside0.mk h4
 have HS := Aside0.mk hs
 have hli : lineE n l a = 0 := by unfold lineE; rw [if_pos hk.1, if_pos hk.2]
 have hb0 := (Below.refl _ w).alloc (Nat.le_refl _) (.cells #[.int .i64 a.f0, .int .i64 a.f1, .int .i64 a.f2, .int .i64 a.f3, .int .i64 a.f4] 24)
 have HL := Aside0.mk (Kd.C_below hr hb0)
 have HB0 := Aside0.mk hb0
 have HX0 := heap1_0 w (.cells #[.int .i64 a.f0, .int .i64 a.f1, .int .i64 a.f2, .int .i64 a.f3, .int .i64 a.f4] 24)
 have HX := Aside0.mk HX0
 have HCH : ∀ W, Kd.C k24 W A l.length l → Calls Try.prog 56 #[.int .i64 n, .slice A l.length c, .agg #[.int .i64 a.f0, .int .i64 a.f1, .int .i64 a.f2, .int .i64 a.f3, .int .i64 a.f4]] W fun e w' => e = .returned (.int .i64 0) ∧ Below W.heap.size W w' := fun W h => by rw [← hli]; exact line_calls _ A c l a W h hc
 have HCC := Aside0.mk HCH
 clear HCH hr hb0 h4 hs hli
 go_enter Try.func34, Try.ntmps34
 go_upto_region 1 with (fail)
 generalize (w.alloc (.cells #[.int .i64 a.f0, .int .i64 a.f1, .int .i64 a.f2, .int .i64 a.f3, .int .i64 a.f4] 24)) = w0 at *
 have x0 : w0.cell? ⟨w.heap.size, 0, none⟩ = some (.int .i64 a.f0) := (cell_of HX0 0).trans rfl
 have x1 : w0.cell? ⟨w.heap.size, 1, none⟩ = some (.int .i64 a.f1) := (cell_of HX0 1).trans rfl
 have x2 : w0.cell? ⟨w.heap.size, 2, none⟩ = some (.int .i64 a.f2) := (cell_of HX0 2).trans rfl
 have x3 : w0.cell? ⟨w.heap.size, 3, none⟩ = some (.int .i64 a.f3) := (cell_of HX0 3).trans rfl
 have x4 : w0.cell? ⟨w.heap.size, 4, none⟩ = some (.int .i64 a.f4) := (cell_of HX0 4).trans rfl
 clear HX0
 go_upto_region 5 with (first | (go_at_call 56; refine (HCC.out _ HL.out).mono ?_; rintro e w1 ⟨rfl, hb1⟩; have HB1 := Aside0.mk (below_step HB0.out hb1); have HL1 := Aside0.mk (Kd.C_below HL.out hb1); have HX1 := Aside0.mk (blk_below HX.out hb1); clear hb1) | (go_at_call 57; refine (shut_told n A c l _ (by omega) HR.out HL1.out hc h3).mono ?_; rintro e w2 ⟨C, B, S, T, no, rfl, HCL, H50, (⟨rfl, HOK, hsat⟩ | ⟨⟨gq, rfl, HT⟩, hsat⟩)⟩ <;> first | (exact (Bool.noConfusion (HS.out.symm.trans hsat))) | (have HSAT := Aside0.mk hsat; clear hsat)) | ((with_reducible refine gate_dst (N := 10) rfl ?_); refine alloc_event rfl rfl rfl (alloc105 _) ?_; intro G hg4 w3 hw1 hb1; have EG := Aside0.mk hg4; clear hg4; have GG := Aside0.mk hw1; have B3 := Aside0.mk hb1; clear hw1 hb1; simp only [Act.put, List.setIfInBounds_toArray, List.set_cons_zero, List.set_cons_succ]) | ((with_reducible refine gate_store (t := 105) (p := 10) rfl ?_); refine storeRow_event (T := 105) (p := 10) (y := .tmp 22) (t := 105) (old := z105 (.int .i64 0) (.pointer none)) (C := C) (g := G) rfl rfl rfl rfl rfl GG.out ?a7 ?a8 ?a9 ?_; (case a7 => rw [HCL.out.2.1.1]; exact info105); (case a8 => rw [size_z105, HCL.out.2.1.1]); (case a9 => exact HCL.out.2.1.2.1); intro w4 hw9 hb9 hsz9; have HW4 := Aside0.mk hw9; have HG4 := Aside0.mk hb9; clear hw9 hb9 hsz9))
 have h04 : Below w1.heap.size w1 w4 ∧ _ := stored HCL.out.1 EG.out B3.out HG4.out HCL.out.2.1 HCL.out.2.2
 obtain ⟨h14, _, hC5, hM5⟩ := h04
 have hXb := blk_below HX1.out h14
 have z0 : w4.cell? ⟨w.heap.size, 0, none⟩ = some (.int .i64 a.f0) := (cell_of hXb 0).trans rfl
 have z1 : w4.cell? ⟨w.heap.size, 1, none⟩ = some (.int .i64 a.f1) := (cell_of hXb 1).trans rfl
 have z2 : w4.cell? ⟨w.heap.size, 2, none⟩ = some (.int .i64 a.f2) := (cell_of hXb 2).trans rfl
 have z3 : w4.cell? ⟨w.heap.size, 3, none⟩ = some (.int .i64 a.f3) := (cell_of hXb 3).trans rfl
 have z4 : w4.cell? ⟨w.heap.size, 4, none⟩ = some (.int .i64 a.f4) := (cell_of hXb 4).trans rfl
 have HB4 := Aside0.mk (below_step HB1.out h14)
 have HC5 := Aside0.mk hC5
 have HM5 := Aside0.mk hM5
 have HW6 := Aside0.mk HW4.out
 have c50 : w4.cell? ⟨G, 50, none⟩ = some (.pointer none) := (cell_of HW4.out 50).trans H50.out
 have HTV : Aside0 ((ofM S T a).1 = v) := ⟨(topV_eq (HOK.out.of HR.out r)).symm.trans hv⟩
 clear h14 B3 GG HG4 hC5 hM5 hv
 have HXB := Aside0.mk hXb
 clear hXb
 go_upto_region 7 with (first | (go_at_call 58; refine (of_told n B C S T none a _ (by omega) r HC5.out HM5.out v HTV.out).mono ?_; rintro e w6 ⟨hb6, p6, rfl⟩; have HB6 := Aside0.mk (below_step HB4.out hb6); have HX6 := Aside0.mk (blk_below HXB.out hb6); clear hb6 z0 z1 z2 z3 z4 c50) | ((with_reducible refine gate_dst (N := 25) rfl ?_); refine loadRow_event (T := 105) (p := 10) (g := G) (C := C) (t := 105) rfl rfl rfl rfl HW6.out Try.underlying105 rfl (by rw [HCL.out.2.1.1]; exact info105) ?_; simp only [Act.put, List.setIfInBounds_toArray, List.set_cons_zero, List.set_cons_succ]))
 have hx6 := blk_alloc HX6.out (.cells #[.int .i64 v, .pointer p6] 102)
 have hy6 := heap1_0 w6 (.cells #[.int .i64 v, .pointer p6] 102)
 have HB7 := Aside0.mk (below_step HB6.out ((Below.refl _ w6).alloc (Nat.le_refl _) (.cells #[.int .i64 v, .pointer p6] 102)))
 generalize (w6.alloc (.cells #[.int .i64 v, .pointer p6] 102)) = w7 at *
 generalize w6.heap.size = g7 at *
 have y4 : w7.cell? ⟨w.heap.size, 4, none⟩ = some (.int .i64 a.f4) := (cell_of hx6 4).trans rfl
 have p0 : w7.cell? ⟨g7, 0, none⟩ = some (.int .i64 v) := (cell_of hy6 0).trans rfl
 have p1 : w7.cell? ⟨g7, 1, none⟩ = some (.pointer p6) := (cell_of hy6 1).trans rfl
 clear hx6 hy6 HX6 HB6
 go_wp2_with fail
 go_ret3
 exact ⟨rfl, HB7.out⟩
set_option maxRecDepth 100000 in
set_option maxHeartbeats 2000000 in
theorem prove_line (n : Nat) (A : Option Addr) (c : Nat) (l : List S24) (a : S24) (w : World) (hr : Kd.C k24 w A l.length l) (hc : l.length ≤ c) (hk : checkE n l = 0 ∧ rightB n a = true) (hs : satB l = true) (v : Int) (hv : topV l a = v) (hm : decide (v ≤ a.f4) = true) :
 Calls Try.prog 34 #[.int .i64 (n : Nat), .slice A l.length c, .agg #[.int .i64 a.f0, .int .i64 a.f1, .int .i64 a.f2, .int .i64 a.f3, .int .i64 a.f4]] w fun e w' => ∃ v out, e = .returned (.tuple #[v, .bool true, .int .i64 0]) ∧ Kd.R k166 166 w' w.heap.size (fun _ => True) v out ∧ Below w.heap.size w w' ∧ ∃ t, LineT l a t ∧ StepsOf t out := by
 have hu105 := Try.underlying105
 have hu24 := Try.underlying24
 have hu102 := Try.underlying102
 obtain ⟨h1, h2, h3, h4⟩ := check_ok hk.1
 have r := rt_of_right hk.2
 have HR := Aside0.mk h4
 have HS := Aside0.mk hs
 have hli : lineE n l a = 0 := by unfold lineE; rw [if_pos hk.1, if_pos hk.2]
 have hb0 := (Below.refl _ w).alloc (Nat.le_refl _) (.cells #[.int .i64 a.f0, .int .i64 a.f1, .int .i64 a.f2, .int .i64 a.f3, .int .i64 a.f4] 24)
 have HL := Aside0.mk (Kd.C_below hr hb0)
 have HB0 := Aside0.mk hb0
 have HX0 := heap1_0 w (.cells #[.int .i64 a.f0, .int .i64 a.f1, .int .i64 a.f2, .int .i64 a.f3, .int .i64 a.f4] 24)
 have HX := Aside0.mk HX0
 have HCH : ∀ W, Kd.C k24 W A l.length l → Calls Try.prog 56 #[.int .i64 n, .slice A l.length c, .agg #[.int .i64 a.f0, .int .i64 a.f1, .int .i64 a.f2, .int .i64 a.f3, .int .i64 a.f4]] W fun e w' => e = .returned (.int .i64 0) ∧ Below W.heap.size W w' := fun W h => by rw [← hli]; exact line_calls _ A c l a W h hc
 have HCC := Aside0.mk HCH
 clear HCH hr hb0 h4 hs hli
 go_enter Try.func34, Try.ntmps34
 go_upto_region 1 with (fail)
 generalize (w.alloc (.cells #[.int .i64 a.f0, .int .i64 a.f1, .int .i64 a.f2, .int .i64 a.f3, .int .i64 a.f4] 24)) = w0 at *
 have x0 : w0.cell? ⟨w.heap.size, 0, none⟩ = some (.int .i64 a.f0) := (cell_of HX0 0).trans rfl
 have x1 : w0.cell? ⟨w.heap.size, 1, none⟩ = some (.int .i64 a.f1) := (cell_of HX0 1).trans rfl
 have x2 : w0.cell? ⟨w.heap.size, 2, none⟩ = some (.int .i64 a.f2) := (cell_of HX0 2).trans rfl
 have x3 : w0.cell? ⟨w.heap.size, 3, none⟩ = some (.int .i64 a.f3) := (cell_of HX0 3).trans rfl
 have x4 : w0.cell? ⟨w.heap.size, 4, none⟩ = some (.int .i64 a.f4) := (cell_of HX0 4).trans rfl
 clear HX0
 go_upto_region 5 with (first | (go_at_call 56; refine (HCC.out _ HL.out).mono ?_; rintro e w1 ⟨rfl, hb1⟩; have HB1 := Aside0.mk (below_step HB0.out hb1); have HL1 := Aside0.mk (Kd.C_below HL.out hb1); have HX1 := Aside0.mk (blk_below HX.out hb1); clear hb1) | (go_at_call 57; refine (shut_told n A c l _ (by omega) HR.out HL1.out hc h3).mono ?_; rintro e w2 ⟨C, B, S, T, no, rfl, HCL, H50, (⟨rfl, HOK, hsat⟩ | ⟨⟨gq, rfl, HT⟩, hsat⟩)⟩ <;> first | (exact (Bool.noConfusion (HS.out.symm.trans hsat))) | (have HSAT := Aside0.mk hsat; clear hsat)) | ((with_reducible refine gate_dst (N := 10) rfl ?_); refine alloc_event rfl rfl rfl (alloc105 _) ?_; intro G hg4 w3 hw1 hb1; have EG := Aside0.mk hg4; clear hg4; have GG := Aside0.mk hw1; have B3 := Aside0.mk hb1; clear hw1 hb1; simp only [Act.put, List.setIfInBounds_toArray, List.set_cons_zero, List.set_cons_succ]) | ((with_reducible refine gate_store (t := 105) (p := 10) rfl ?_); refine storeRow_event (T := 105) (p := 10) (y := .tmp 22) (t := 105) (old := z105 (.int .i64 0) (.pointer none)) (C := C) (g := G) rfl rfl rfl rfl rfl GG.out ?a7 ?a8 ?a9 ?_; (case a7 => rw [HCL.out.2.1.1]; exact info105); (case a8 => rw [size_z105, HCL.out.2.1.1]); (case a9 => exact HCL.out.2.1.2.1); intro w4 hw9 hb9 hsz9; have HW4 := Aside0.mk hw9; have HG4 := Aside0.mk hb9; clear hw9 hb9 hsz9))
 have h04 : Below w1.heap.size w1 w4 ∧ _ := stored HCL.out.1 EG.out B3.out HG4.out HCL.out.2.1 HCL.out.2.2
 obtain ⟨h14, _, hC5, hM5⟩ := h04
 have hXb := blk_below HX1.out h14
 have z0 : w4.cell? ⟨w.heap.size, 0, none⟩ = some (.int .i64 a.f0) := (cell_of hXb 0).trans rfl
 have z1 : w4.cell? ⟨w.heap.size, 1, none⟩ = some (.int .i64 a.f1) := (cell_of hXb 1).trans rfl
 have z2 : w4.cell? ⟨w.heap.size, 2, none⟩ = some (.int .i64 a.f2) := (cell_of hXb 2).trans rfl
 have z3 : w4.cell? ⟨w.heap.size, 3, none⟩ = some (.int .i64 a.f3) := (cell_of hXb 3).trans rfl
 have z4 : w4.cell? ⟨w.heap.size, 4, none⟩ = some (.int .i64 a.f4) := (cell_of hXb 4).trans rfl
 have HB4 := Aside0.mk (below_step HB1.out h14)
 have HC5 := Aside0.mk hC5
 have HM5 := Aside0.mk hM5
 have HW6 := Aside0.mk HW4.out
 have c50 : w4.cell? ⟨G, 50, none⟩ = some (.pointer none) := (cell_of HW4.out 50).trans H50.out
 have HTV : Aside0 ((ofM S T a).1 = v) := ⟨(topV_eq (HOK.out.of HR.out r)).symm.trans hv⟩
 clear h14 B3 GG HG4 hC5 hM5 hv
 have HXB := Aside0.mk hXb
 clear hXb
 have HVM := Aside0.mk (of_decide_eq_true hm)
 go_upto_region 7 with (first | (go_at_call 58; refine (of_line n B C S T none l a _ (by omega) HR.out HOK.out r HC5.out HM5.out v HTV.out HVM.out).mono ?_; rintro e w6 ⟨hb6, g6, t6, rfl, HD6, HT6⟩; have HB6 := Aside0.mk (below_step HB4.out hb6); have HX6 := Aside0.mk (blk_below HXB.out hb6); clear hb6 z0 z1 z2 z3 z4 c50) | ((with_reducible refine gate_dst (N := 25) rfl ?_); refine loadRow_event (T := 105) (p := 10) (g := G) (C := C) (t := 105) rfl rfl rfl rfl HW6.out Try.underlying105 rfl (by rw [HCL.out.2.1.1]; exact info105) ?_; simp only [Act.put, List.setIfInBounds_toArray, List.set_cons_zero, List.set_cons_succ]))
 have hx6 := blk_alloc HX6.out (.cells #[.int .i64 v, .pointer (some ⟨g6, 0, none⟩)] 102)
 have hy6 := heap1_0 w6 (.cells #[.int .i64 v, .pointer (some ⟨g6, 0, none⟩)] 102)
 have HB7 := Aside0.mk (below_step HB6.out ((Below.refl _ w6).alloc (Nat.le_refl _) (.cells #[.int .i64 v, .pointer (some ⟨g6, 0, none⟩)] 102)))
 have HD7 := Aside0.mk (HD6.out.stays (Stays.alloc w6 (.cells #[.int .i64 v, .pointer (some ⟨g6, 0, none⟩)] 102)))
 clear HD6
 generalize (w6.alloc (.cells #[.int .i64 v, .pointer (some ⟨g6, 0, none⟩)] 102)) = w7 at *
 generalize w6.heap.size = g7 at *
 have y4 : w7.cell? ⟨w.heap.size, 4, none⟩ = some (.int .i64 a.f4) := (cell_of hx6 4).trans rfl
 have p0 : w7.cell? ⟨g7, 0, none⟩ = some (.int .i64 v) := (cell_of hy6 0).trans rfl
 have p1 : w7.cell? ⟨g7, 1, none⟩ = some (.pointer (some ⟨g6, 0, none⟩)) := (cell_of hy6 1).trans rfl
 clear hx6 hy6 HX6 HB6
 go_wp2_with (go_at_call 78; refine (steps_calls t6 g6 _ HD7.out (by have := HT6.out.2.1; omega)).mono ?_; rintro e w8 ⟨v8, out, rfl, HV, HB8, HST⟩; have HV8 := Aside0.mk HV; have HB9 := Aside0.mk HB8; have HST8 := Aside0.mk HST; clear HV HB8 HST)
 go_ret3
 exact ⟨_, out, rfl, Kd.R_lower HV8.out (below_size HB7.out), below_step HB7.out HB9.out, t6, HT6.out, HST8.out⟩
set_option maxRecDepth 100000 in
set_option maxHeartbeats 2000000 in
theorem prove_ref (n : Nat) (A : Option Addr) (c : Nat) (l : List S24) (a : S24) (w : World) (hr : Kd.C k24 w A l.length l) (hc : l.length ≤ c) (hk : checkE n l = 0 ∧ rightB n a = true) (hs : satB l = false) :
 Calls Try.prog 34 #[.int .i64 (n : Nat), .slice A l.length c, .agg #[.int .i64 a.f0, .int .i64 a.f1, .int .i64 a.f2, .int .i64 a.f3, .int .i64 a.f4]] w fun e w' => ∃ v out, e = .returned (.tuple #[v, .bool true, .int .i64 0]) ∧ Kd.R k166 166 w' w.heap.size (fun _ => True) v out ∧ Below w.heap.size w w' ∧ ∃ t, RefT l t ∧ StepsOf t out := by
 have hu105 := Try.underlying105
 have hu24 := Try.underlying24
 have hu102 := Try.underlying102
 obtain ⟨h1, h2, h3, h4⟩ := check_ok hk.1
 have r := rt_of_right hk.2
 have HR := Aside0.mk h4
 have HS := Aside0.mk hs
 have hli : lineE n l a = 0 := by unfold lineE; rw [if_pos hk.1, if_pos hk.2]
 have hb0 := (Below.refl _ w).alloc (Nat.le_refl _) (.cells #[.int .i64 a.f0, .int .i64 a.f1, .int .i64 a.f2, .int .i64 a.f3, .int .i64 a.f4] 24)
 have HL := Aside0.mk (Kd.C_below hr hb0)
 have HB0 := Aside0.mk hb0
 have HX0 := heap1_0 w (.cells #[.int .i64 a.f0, .int .i64 a.f1, .int .i64 a.f2, .int .i64 a.f3, .int .i64 a.f4] 24)
 have HX := Aside0.mk HX0
 have HCH : ∀ W, Kd.C k24 W A l.length l → Calls Try.prog 56 #[.int .i64 n, .slice A l.length c, .agg #[.int .i64 a.f0, .int .i64 a.f1, .int .i64 a.f2, .int .i64 a.f3, .int .i64 a.f4]] W fun e w' => e = .returned (.int .i64 0) ∧ Below W.heap.size W w' := fun W h => by rw [← hli]; exact line_calls _ A c l a W h hc
 have HCC := Aside0.mk HCH
 clear HCH hr hb0 h4 hs hli
 go_enter Try.func34, Try.ntmps34
 go_upto_region 1 with (fail)
 generalize (w.alloc (.cells #[.int .i64 a.f0, .int .i64 a.f1, .int .i64 a.f2, .int .i64 a.f3, .int .i64 a.f4] 24)) = w0 at *
 have x0 : w0.cell? ⟨w.heap.size, 0, none⟩ = some (.int .i64 a.f0) := (cell_of HX0 0).trans rfl
 have x1 : w0.cell? ⟨w.heap.size, 1, none⟩ = some (.int .i64 a.f1) := (cell_of HX0 1).trans rfl
 have x2 : w0.cell? ⟨w.heap.size, 2, none⟩ = some (.int .i64 a.f2) := (cell_of HX0 2).trans rfl
 have x3 : w0.cell? ⟨w.heap.size, 3, none⟩ = some (.int .i64 a.f3) := (cell_of HX0 3).trans rfl
 have x4 : w0.cell? ⟨w.heap.size, 4, none⟩ = some (.int .i64 a.f4) := (cell_of HX0 4).trans rfl
 clear HX0
 go_upto_region 5 with (first | (go_at_call 56; refine (HCC.out _ HL.out).mono ?_; rintro e w1 ⟨rfl, hb1⟩; have HB1 := Aside0.mk (below_step HB0.out hb1); have HL1 := Aside0.mk (Kd.C_below HL.out hb1); have HX1 := Aside0.mk (blk_below HX.out hb1); clear hb1) | (go_at_call 57; refine (shut_told n A c l _ (by omega) HR.out HL1.out hc h3).mono ?_; rintro e w2 ⟨C, B, S, T, no, rfl, HCL, H50, (⟨rfl, HOK, hsat⟩ | ⟨⟨gq, rfl, HT⟩, hsat⟩)⟩ <;> first | (exact (Bool.noConfusion (HS.out.symm.trans hsat))) | (have HSAT := Aside0.mk hsat; clear hsat)) | ((with_reducible refine gate_dst (N := 10) rfl ?_); refine alloc_event rfl rfl rfl (alloc105 _) ?_; intro G hg4 w3 hw1 hb1; have EG := Aside0.mk hg4; clear hg4; have GG := Aside0.mk hw1; have B3 := Aside0.mk hb1; clear hw1 hb1; simp only [Act.put, List.setIfInBounds_toArray, List.set_cons_zero, List.set_cons_succ]) | ((with_reducible refine gate_store (t := 105) (p := 10) rfl ?_); refine storeRow_event (T := 105) (p := 10) (y := .tmp 22) (t := 105) (old := z105 (.int .i64 0) (.pointer none)) (C := C) (g := G) rfl rfl rfl rfl rfl GG.out ?a7 ?a8 ?a9 ?_; (case a7 => rw [HCL.out.2.1.1]; exact info105); (case a8 => rw [size_z105, HCL.out.2.1.1]); (case a9 => exact HCL.out.2.1.2.1); intro w4 hw9 hb9 hsz9; have HW4 := Aside0.mk hw9; have HG4 := Aside0.mk hb9; clear hw9 hb9 hsz9))
 have h04 : Below w1.heap.size w1 w4 ∧ _ := stored HCL.out.1 EG.out B3.out HG4.out HCL.out.2.1 HCL.out.2.2
 obtain ⟨h14, _, hC5, hM5⟩ := h04
 have hXb := blk_below HX1.out h14
 have z0 : w4.cell? ⟨w.heap.size, 0, none⟩ = some (.int .i64 a.f0) := (cell_of hXb 0).trans rfl
 have z1 : w4.cell? ⟨w.heap.size, 1, none⟩ = some (.int .i64 a.f1) := (cell_of hXb 1).trans rfl
 have z2 : w4.cell? ⟨w.heap.size, 2, none⟩ = some (.int .i64 a.f2) := (cell_of hXb 2).trans rfl
 have z3 : w4.cell? ⟨w.heap.size, 3, none⟩ = some (.int .i64 a.f3) := (cell_of hXb 3).trans rfl
 have z4 : w4.cell? ⟨w.heap.size, 4, none⟩ = some (.int .i64 a.f4) := (cell_of hXb 4).trans rfl
 have HB4 := Aside0.mk (below_step HB1.out h14)
 have HC5 := Aside0.mk hC5
 have HM5 := Aside0.mk hM5
 have HW6 := Aside0.mk HW4.out
 have c50 : w4.cell? ⟨G, 50, none⟩ = some (.pointer (some ⟨gq, 0, none⟩)) := (cell_of HW4.out 50).trans H50.out
 have h24 : Below w2.heap.size w2 w4 := (stored HCL.out.1 EG.out B3.out HG4.out HCL.out.2.1 HCL.out.2.2).2.1
 obtain ⟨t, hd, hT⟩ := HT.out
 have HD4 := Aside0.mk (hd.stays (Stays.below h24 rfl))
 have HRT := Aside0.mk hT
 clear h14 B3 GG HG4 hC5 hM5 h24 hd hT HT
 have HXB := Aside0.mk hXb
 clear hXb
 go_upto_region 7 with (first | (go_at_call 58; refine (of_any n B C S T (some ⟨gq, 0, none⟩) a _ (by omega) r HC5.out HM5.out).mono ?_; rintro e w6 ⟨hb6, v, p6, rfl⟩; have HD6 := Aside0.mk (HD4.out.stays (Stays.below hb6 rfl)); have HB6 := Aside0.mk (below_step HB4.out hb6); have HX6 := Aside0.mk (blk_below HXB.out hb6); clear hb6 z0 z1 z2 z3 z4 c50) | ((with_reducible refine gate_dst (N := 25) rfl ?_); refine loadRow_event (T := 105) (p := 10) (g := G) (C := C) (t := 105) rfl rfl rfl rfl HW6.out Try.underlying105 rfl (by rw [HCL.out.2.1.1]; exact info105) ?_; simp only [Act.put, List.setIfInBounds_toArray, List.set_cons_zero, List.set_cons_succ]))
 have hx6 := blk_alloc HX6.out (.cells #[.int .i64 v, .pointer p6] 102)
 have hy6 := heap1_0 w6 (.cells #[.int .i64 v, .pointer p6] 102)
 have HB7 := Aside0.mk (below_step HB6.out ((Below.refl _ w6).alloc (Nat.le_refl _) (.cells #[.int .i64 v, .pointer p6] 102)))
 have HD7 := Aside0.mk (HD6.out.stays (Stays.alloc w6 (.cells #[.int .i64 v, .pointer p6] 102)))
 clear HD6
 generalize (w6.alloc (.cells #[.int .i64 v, .pointer p6] 102)) = w7 at *
 generalize w6.heap.size = g7 at *
 have y4 : w7.cell? ⟨w.heap.size, 4, none⟩ = some (.int .i64 a.f4) := (cell_of hx6 4).trans rfl
 have p0 : w7.cell? ⟨g7, 0, none⟩ = some (.int .i64 v) := (cell_of hy6 0).trans rfl
 have p1 : w7.cell? ⟨g7, 1, none⟩ = some (.pointer p6) := (cell_of hy6 1).trans rfl
 clear hx6 hy6 HX6 HB6
 go_wp2_with (go_at_call 78; refine (steps_calls t gq _ HD7.out (by have := HRT.out.size; omega)).mono ?_; rintro e w8 ⟨v8, out, rfl, HV, HB8, HST⟩; have HV8 := Aside0.mk HV; have HB9 := Aside0.mk HB8; have HST8 := Aside0.mk HST; clear HV HB8 HST)
 go_ret3
 exact ⟨_, out, rfl, Kd.R_lower HV8.out (below_size HB7.out), below_step HB7.out HB9.out, t, HRT.out, HST8.out⟩
set_option maxRecDepth 100000 in
set_option maxHeartbeats 1000000 in
theorem prove_err (n : Int) (A : Option Addr) (c : Nat) (l : List S24) (a : S24) (w : World) (hr : Kd.C k24 w A l.length l) (hc : l.length ≤ c) (hk : lineE n l a ≠ 0) :
 Calls Try.prog 34 #[.int .i64 n, .slice A l.length c, .agg #[.int .i64 a.f0, .int .i64 a.f1, .int .i64 a.f2, .int .i64 a.f3, .int .i64 a.f4]] w fun e w' => e = .returned (.tuple #[.slice none 0 0, .bool false, .int .i64 (lineE n l a)]) ∧ Below w.heap.size w w' := by
 have hu24 := Try.underlying24
 have hb0 := (Below.refl _ w).alloc (Nat.le_refl _) (.cells #[.int .i64 a.f0, .int .i64 a.f1, .int .i64 a.f2, .int .i64 a.f3, .int .i64 a.f4] 24)
 have HL := Aside0.mk (Kd.C_below hr hb0)
 have HB0 := Aside0.mk hb0
 have HX0 := heap1_0 w (.cells #[.int .i64 a.f0, .int .i64 a.f1, .int .i64 a.f2, .int .i64 a.f3, .int .i64 a.f4] 24)
 have hcb : (lineE n l a != 0) = true := by rw [bne_iff_ne]; exact hk
 clear hr hk hb0
 go_enter Try.func34, Try.ntmps34
 go_upto_region 1 with (fail)
 generalize (w.alloc (.cells #[.int .i64 a.f0, .int .i64 a.f1, .int .i64 a.f2, .int .i64 a.f3, .int .i64 a.f4] 24)) = w0 at *
 have x0 : w0.cell? ⟨w.heap.size, 0, none⟩ = some (.int .i64 a.f0) := (cell_of HX0 0).trans rfl
 have x1 : w0.cell? ⟨w.heap.size, 1, none⟩ = some (.int .i64 a.f1) := (cell_of HX0 1).trans rfl
 have x2 : w0.cell? ⟨w.heap.size, 2, none⟩ = some (.int .i64 a.f2) := (cell_of HX0 2).trans rfl
 have x3 : w0.cell? ⟨w.heap.size, 3, none⟩ = some (.int .i64 a.f3) := (cell_of HX0 3).trans rfl
 have x4 : w0.cell? ⟨w.heap.size, 4, none⟩ = some (.int .i64 a.f4) := (cell_of HX0 4).trans rfl
 clear HX0
 go_wp2_with (go_at_call 56; refine (line_calls n A c l a _ HL.out hc).mono ?_; rintro e w1 ⟨rfl, hb1⟩; have HB1 := Aside0.mk (below_step HB0.out hb1); clear hb1)
 go_ret3
 exact ⟨rfl, HB1.out⟩
end Go.Proofs.Ytmoiickbgokloaa.PA
