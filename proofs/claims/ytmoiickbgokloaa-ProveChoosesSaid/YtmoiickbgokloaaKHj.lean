/- Contracts by hand: prove.Most, prove.Span. -/
import Derived.Test.YtmoiickbgokloaaKHi
namespace Go.Proofs.Ytmoiickbgokloaa.PA
open Go.RowKit Go.Proofs.YtmoiickbgokloaaW.PrintWords Go.Proofs.YtmoiickbgokloaaW.PrintLast Go.Proofs.YtmoiickbgokloaaW.PrintMore Go.Proofs.Ytmoiickbgokloaa.Utv
set_option linter.unusedVariables false
set_option linter.unusedSimpArgs false
theorem of_told (n B : Nat) (C : Array Value) (S : Mt) (T : Nat → Int × Option Tree) (no : Option Addr) (a : S24) (w : World) (hn : n ≤ 12) (r : Rt n a) (hC : Clo w C n B T no) (hM : Mat w B S) (v : Int) (hv : (ofM S T a).1 = v) :
 Calls Try.prog 58 #[.agg C, .agg #[.int .i64 a.f0, .int .i64 a.f1, .int .i64 a.f2, .int .i64 a.f3, .int .i64 a.f4]] w fun e w' => Below w.heap.size w w' ∧ ∃ p, e = .returned (.agg #[.int .i64 v, .pointer p]) :=
 (of_calls n B C S T no a w hn r hC hM).mono fun e w' ⟨hb, p, he, _⟩ => ⟨hb, p, hv ▸ he⟩
set_option maxRecDepth 100000 in
set_option maxHeartbeats 1000000 in
theorem most_some (n : Nat) (A : Option Addr) (c : Nat) (l : List S24) (a : S24) (w : World) (hr : Kd.C k24 w A l.length l) (hc : l.length ≤ c) (hk : checkE n l = 0 ∧ rightB n a = true) (hs : satB l = true) (v : Int) (hv : topV l a = v) (hne : (v == 1152921504606846976) = false) :
 Calls Try.prog 18 #[.int .i64 (n : Nat), .slice A l.length c, .agg #[.int .i64 a.f0, .int .i64 a.f1, .int .i64 a.f2, .int .i64 a.f3, .int .i64 a.f4]] w fun e w' => e = .returned (.tuple #[.int .i64 v, .int .i64 0]) ∧ Below w.heap.size w w' ∧ ∃ v, Top l a v := by
 have hu105 := Try.underlying105
 have hu24 := Try.underlying24
 have hu102 := Try.underlying102
 obtain ⟨h1, h2, h3, h4⟩ := check_ok hk.1
 have r := rt_of_right hk.2
 have HR := Aside0.mk h4
 have HS := Aside0.mk hs
 have hli : lineE n l a = 0 := by unfold lineE; rw [if_pos hk.1, if_pos hk.2]
 have hb0 := (Below.refl _ w).alloc (Nat.le_refl _) (.cells #[.int .i64 a.f0, .int .i64 a.f1, .int .i64 a.f2, .int .i64 a.f3, .int .i64 a.f4] 24)
 have HL := Aside0.mk (Kd.C_below hr hb0)
 have HB0 := Aside0.mk hb0
 have HX0 := heap1_0 w (.cells #[.int .i64 a.f0, .int .i64 a.f1, .int .i64 a.f2, .int .i64 a.f3, .int .i64 a.f4] 24)
 have HX := Aside0.mk HX0
 have HCH : ∀ W, Kd.C k24 W A l.length l → Calls Try.prog 56 #[.int .i64 n, .slice A l.length c, .agg #[.int .i64 a.f0, .int .i64 a.f1, .int .i64 a.f2, .int .i64 a.f3, .int .i64 a.f4]] W fun e w' => e = .returned (.int .i64 0) ∧ Below W.heap.size W w' := fun W h => by rw [← hli]; exact line_calls _ A c l a W h hc
 have HCC := Aside0.mk HCH
 clear HCH hr hb0 h4 hs hli
 go_enter Try.func18, Try.ntmps18
 go_upto_region 1 with (fail)
 generalize (w.alloc (.cells #[.int .i64 a.f0, .int .i64 a.f1, .int .i64 a.f2, .int .i64 a.f3, .int .i64 a.f4] 24)) = w0 at *
 have x0 : w0.cell? ⟨w.heap.size, 0, none⟩ = some (.int .i64 a.f0) := (cell_of HX0 0).trans rfl
 have x1 : w0.cell? ⟨w.heap.size, 1, none⟩ = some (.int .i64 a.f1) := (cell_of HX0 1).trans rfl
 have x2 : w0.cell? ⟨w.heap.size, 2, none⟩ = some (.int .i64 a.f2) := (cell_of HX0 2).trans rfl
 have x3 : w0.cell? ⟨w.heap.size, 3, none⟩ = some (.int .i64 a.f3) := (cell_of HX0 3).trans rfl
 have x4 : w0.cell? ⟨w.heap.size, 4, none⟩ = some (.int .i64 a.f4) := (cell_of HX0 4).trans rfl
 clear HX0
 go_upto_region 5 with (first | (go_at_call 56; refine (HCC.out _ HL.out).mono ?_; rintro e w1 ⟨rfl, hb1⟩; have HB1 := Aside0.mk (below_step HB0.out hb1); have HL1 := Aside0.mk (Kd.C_below HL.out hb1); have HX1 := Aside0.mk (blk_below HX.out hb1); clear hb1) | (go_at_call 57; refine (shut_told n A c l _ (by omega) HR.out HL1.out hc h3).mono ?_; rintro e w2 ⟨C, B, S, T, no, rfl, HCL, H50, (⟨rfl, HOK, hsat⟩ | ⟨⟨gq, rfl, HT⟩, hsat⟩)⟩ <;> first | (exact (Bool.noConfusion (HS.out.symm.trans hsat))) | (have HSAT := Aside0.mk hsat; clear hsat)) | ((with_reducible refine gate_dst (N := 9) rfl ?_); refine alloc_event rfl rfl rfl (alloc105 _) ?_; intro G hg4 w3 hw1 hb1; have EG := Aside0.mk hg4; clear hg4; have GG := Aside0.mk hw1; have B3 := Aside0.mk hb1; clear hw1 hb1; simp only [Act.put, List.setIfInBounds_toArray, List.set_cons_zero, List.set_cons_succ]) | ((with_reducible refine gate_store (t := 105) (p := 9) rfl ?_); refine storeRow_event (T := 105) (p := 9) (y := .tmp 20) (t := 105) (old := z105 (.int .i64 0) (.pointer none)) (C := C) (g := G) rfl rfl rfl rfl rfl GG.out ?a7 ?a8 ?a9 ?_; (case a7 => rw [HCL.out.2.1.1]; exact info105); (case a8 => rw [size_z105, HCL.out.2.1.1]); (case a9 => exact HCL.out.2.1.2.1); intro w4 hw9 hb9 hsz9; have HW4 := Aside0.mk hw9; have HG4 := Aside0.mk hb9; clear hw9 hb9 hsz9))
 have h04 : Below w1.heap.size w1 w4 ∧ _ := stored HCL.out.1 EG.out B3.out HG4.out HCL.out.2.1 HCL.out.2.2
 obtain ⟨h14, _, hC5, hM5⟩ := h04
 have hXb := blk_below HX1.out h14
 have z0 : w4.cell? ⟨w.heap.size, 0, none⟩ = some (.int .i64 a.f0) := (cell_of hXb 0).trans rfl
 have z1 : w4.cell? ⟨w.heap.size, 1, none⟩ = some (.int .i64 a.f1) := (cell_of hXb 1).trans rfl
 have z2 : w4.cell? ⟨w.heap.size, 2, none⟩ = some (.int .i64 a.f2) := (cell_of hXb 2).trans rfl
 have z3 : w4.cell? ⟨w.heap.size, 3, none⟩ = some (.int .i64 a.f3) := (cell_of hXb 3).trans rfl
 have z4 : w4.cell? ⟨w.heap.size, 4, none⟩ = some (.int .i64 a.f4) := (cell_of hXb 4).trans rfl
 have HB4 := Aside0.mk (below_step HB1.out h14)
 have HC5 := Aside0.mk hC5
 have HM5 := Aside0.mk hM5
 have HW6 := Aside0.mk HW4.out
 have c50 : w4.cell? ⟨G, 50, none⟩ = some (.pointer none) := (cell_of HW4.out 50).trans H50.out
 have HTV : Aside0 ((ofM S T a).1 = v) := ⟨(topV_eq (HOK.out.of HR.out r)).symm.trans hv⟩
 clear hXb h14 HX1 B3 GG HG4 hC5 hM5 hv
 go_wp2_with (first | (go_at_call 58; refine (of_told n B C S T none a _ (by omega) r HC5.out HM5.out v HTV.out).mono ?_; rintro e w6 ⟨hb6, p6, rfl⟩; have HB6 := Aside0.mk (below_step HB4.out hb6); clear hb6) | ((with_reducible refine gate_dst (N := 24) rfl ?_); refine loadRow_event (T := 105) (p := 9) (g := G) (C := C) (t := 105) rfl rfl rfl rfl HW6.out Try.underlying105 rfl (by rw [HCL.out.2.1.1]; exact info105) ?_; simp only [Act.put, List.setIfInBounds_toArray, List.set_cons_zero, List.set_cons_succ]))
 go_ret2
 exact ⟨rfl, (below_step HB6.out ((Below.refl _ _).alloc (Nat.le_refl _) _)), _, HOK.out.of HR.out r⟩
set_option maxRecDepth 100000 in
set_option maxHeartbeats 1000000 in
theorem most_none (n : Nat) (A : Option Addr) (c : Nat) (l : List S24) (a : S24) (w : World) (hr : Kd.C k24 w A l.length l) (hc : l.length ≤ c) (hk : checkE n l = 0 ∧ rightB n a = true) (hs : satB l = true) (v : Int) (hv : topV l a = v) (hne : (v == 1152921504606846976) = true) :
 Calls Try.prog 18 #[.int .i64 (n : Nat), .slice A l.length c, .agg #[.int .i64 a.f0, .int .i64 a.f1, .int .i64 a.f2, .int .i64 a.f3, .int .i64 a.f4]] w fun e w' => e = .returned (.tuple #[.int .i64 0, .int .i64 5]) ∧ Below w.heap.size w w' ∧ ∃ v, Top l a v := by
 have hu105 := Try.underlying105
 have hu24 := Try.underlying24
 have hu102 := Try.underlying102
 obtain ⟨h1, h2, h3, h4⟩ := check_ok hk.1
 have r := rt_of_right hk.2
 have HR := Aside0.mk h4
 have HS := Aside0.mk hs
 have hli : lineE n l a = 0 := by unfold lineE; rw [if_pos hk.1, if_pos hk.2]
 have hb0 := (Below.refl _ w).alloc (Nat.le_refl _) (.cells #[.int .i64 a.f0, .int .i64 a.f1, .int .i64 a.f2, .int .i64 a.f3, .int .i64 a.f4] 24)
 have HL := Aside0.mk (Kd.C_below hr hb0)
 have HB0 := Aside0.mk hb0
 have HX0 := heap1_0 w (.cells #[.int .i64 a.f0, .int .i64 a.f1, .int .i64 a.f2, .int .i64 a.f3, .int .i64 a.f4] 24)
 have HX := Aside0.mk HX0
 have HCH : ∀ W, Kd.C k24 W A l.length l → Calls Try.prog 56 #[.int .i64 n, .slice A l.length c, .agg #[.int .i64 a.f0, .int .i64 a.f1, .int .i64 a.f2, .int .i64 a.f3, .int .i64 a.f4]] W fun e w' => e = .returned (.int .i64 0) ∧ Below W.heap.size W w' := fun W h => by rw [← hli]; exact line_calls _ A c l a W h hc
 have HCC := Aside0.mk HCH
 clear HCH hr hb0 h4 hs hli
 go_enter Try.func18, Try.ntmps18
 go_upto_region 1 with (fail)
 generalize (w.alloc (.cells #[.int .i64 a.f0, .int .i64 a.f1, .int .i64 a.f2, .int .i64 a.f3, .int .i64 a.f4] 24)) = w0 at *
 have x0 : w0.cell? ⟨w.heap.size, 0, none⟩ = some (.int .i64 a.f0) := (cell_of HX0 0).trans rfl
 have x1 : w0.cell? ⟨w.heap.size, 1, none⟩ = some (.int .i64 a.f1) := (cell_of HX0 1).trans rfl
 have x2 : w0.cell? ⟨w.heap.size, 2, none⟩ = some (.int .i64 a.f2) := (cell_of HX0 2).trans rfl
 have x3 : w0.cell? ⟨w.heap.size, 3, none⟩ = some (.int .i64 a.f3) := (cell_of HX0 3).trans rfl
 have x4 : w0.cell? ⟨w.heap.size, 4, none⟩ = some (.int .i64 a.f4) := (cell_of HX0 4).trans rfl
 clear HX0
 go_upto_region 5 with (first | (go_at_call 56; refine (HCC.out _ HL.out).mono ?_; rintro e w1 ⟨rfl, hb1⟩; have HB1 := Aside0.mk (below_step HB0.out hb1); have HL1 := Aside0.mk (Kd.C_below HL.out hb1); have HX1 := Aside0.mk (blk_below HX.out hb1); clear hb1) | (go_at_call 57; refine (shut_told n A c l _ (by omega) HR.out HL1.out hc h3).mono ?_; rintro e w2 ⟨C, B, S, T, no, rfl, HCL, H50, (⟨rfl, HOK, hsat⟩ | ⟨⟨gq, rfl, HT⟩, hsat⟩)⟩ <;> first | (exact (Bool.noConfusion (HS.out.symm.trans hsat))) | (have HSAT := Aside0.mk hsat; clear hsat)) | ((with_reducible refine gate_dst (N := 9) rfl ?_); refine alloc_event rfl rfl rfl (alloc105 _) ?_; intro G hg4 w3 hw1 hb1; have EG := Aside0.mk hg4; clear hg4; have GG := Aside0.mk hw1; have B3 := Aside0.mk hb1; clear hw1 hb1; simp only [Act.put, List.setIfInBounds_toArray, List.set_cons_zero, List.set_cons_succ]) | ((with_reducible refine gate_store (t := 105) (p := 9) rfl ?_); refine storeRow_event (T := 105) (p := 9) (y := .tmp 20) (t := 105) (old := z105 (.int .i64 0) (.pointer none)) (C := C) (g := G) rfl rfl rfl rfl rfl GG.out ?a7 ?a8 ?a9 ?_; (case a7 => rw [HCL.out.2.1.1]; exact info105); (case a8 => rw [size_z105, HCL.out.2.1.1]); (case a9 => exact HCL.out.2.1.2.1); intro w4 hw9 hb9 hsz9; have HW4 := Aside0.mk hw9; have HG4 := Aside0.mk hb9; clear hw9 hb9 hsz9))
 have h04 : Below w1.heap.size w1 w4 ∧ _ := stored HCL.out.1 EG.out B3.out HG4.out HCL.out.2.1 HCL.out.2.2
 obtain ⟨h14, _, hC5, hM5⟩ := h04
 have hXb := blk_below HX1.out h14
 have z0 : w4.cell? ⟨w.heap.size, 0, none⟩ = some (.int .i64 a.f0) := (cell_of hXb 0).trans rfl
 have z1 : w4.cell? ⟨w.heap.size, 1, none⟩ = some (.int .i64 a.f1) := (cell_of hXb 1).trans rfl
 have z2 : w4.cell? ⟨w.heap.size, 2, none⟩ = some (.int .i64 a.f2) := (cell_of hXb 2).trans rfl
 have z3 : w4.cell? ⟨w.heap.size, 3, none⟩ = some (.int .i64 a.f3) := (cell_of hXb 3).trans rfl
 have z4 : w4.cell? ⟨w.heap.size, 4, none⟩ = some (.int .i64 a.f4) := (cell_of hXb 4).trans rfl
 have HB4 := Aside0.mk (below_step HB1.out h14)
 have HC5 := Aside0.mk hC5
 have HM5 := Aside0.mk hM5
 have HW6 := Aside0.mk HW4.out
 have c50 : w4.cell? ⟨G, 50, none⟩ = some (.pointer none) := (cell_of HW4.out 50).trans H50.out
 have HTV : Aside0 ((ofM S T a).1 = v) := ⟨(topV_eq (HOK.out.of HR.out r)).symm.trans hv⟩
 clear hXb h14 HX1 B3 GG HG4 hC5 hM5 hv
 go_wp2_with (first | (go_at_call 58; refine (of_told n B C S T none a _ (by omega) r HC5.out HM5.out v HTV.out).mono ?_; rintro e w6 ⟨hb6, p6, rfl⟩; have HB6 := Aside0.mk (below_step HB4.out hb6); clear hb6) | ((with_reducible refine gate_dst (N := 24) rfl ?_); refine loadRow_event (T := 105) (p := 9) (g := G) (C := C) (t := 105) rfl rfl rfl rfl HW6.out Try.underlying105 rfl (by rw [HCL.out.2.1.1]; exact info105) ?_; simp only [Act.put, List.setIfInBounds_toArray, List.set_cons_zero, List.set_cons_succ]))
 go_ret2
 exact ⟨rfl, (below_step HB6.out ((Below.refl _ _).alloc (Nat.le_refl _) _)), _, HOK.out.of HR.out r⟩
set_option maxRecDepth 100000 in
set_option maxHeartbeats 1000000 in
theorem most_clash (n : Nat) (A : Option Addr) (c : Nat) (l : List S24) (a : S24) (w : World) (hr : Kd.C k24 w A l.length l) (hc : l.length ≤ c) (hk : checkE n l = 0 ∧ rightB n a = true) (hs : satB l = false) :
 Calls Try.prog 18 #[.int .i64 (n : Nat), .slice A l.length c, .agg #[.int .i64 a.f0, .int .i64 a.f1, .int .i64 a.f2, .int .i64 a.f3, .int .i64 a.f4]] w fun e w' => e = .returned (.tuple #[.int .i64 0, .int .i64 10]) ∧ Below w.heap.size w w' := by
 have hu105 := Try.underlying105
 have hu24 := Try.underlying24
 have hu102 := Try.underlying102
 obtain ⟨h1, h2, h3, h4⟩ := check_ok hk.1
 have r := rt_of_right hk.2
 have HR := Aside0.mk h4
 have HS := Aside0.mk hs
 have hli : lineE n l a = 0 := by unfold lineE; rw [if_pos hk.1, if_pos hk.2]
 have hb0 := (Below.refl _ w).alloc (Nat.le_refl _) (.cells #[.int .i64 a.f0, .int .i64 a.f1, .int .i64 a.f2, .int .i64 a.f3, .int .i64 a.f4] 24)
 have HL := Aside0.mk (Kd.C_below hr hb0)
 have HB0 := Aside0.mk hb0
 have HX0 := heap1_0 w (.cells #[.int .i64 a.f0, .int .i64 a.f1, .int .i64 a.f2, .int .i64 a.f3, .int .i64 a.f4] 24)
 have HX := Aside0.mk HX0
 have HCH : ∀ W, Kd.C k24 W A l.length l → Calls Try.prog 56 #[.int .i64 n, .slice A l.length c, .agg #[.int .i64 a.f0, .int .i64 a.f1, .int .i64 a.f2, .int .i64 a.f3, .int .i64 a.f4]] W fun e w' => e = .returned (.int .i64 0) ∧ Below W.heap.size W w' := fun W h => by rw [← hli]; exact line_calls _ A c l a W h hc
 have HCC := Aside0.mk HCH
 clear HCH hr hb0 h4 hs hli
 go_enter Try.func18, Try.ntmps18
 go_upto_region 1 with (fail)
 generalize (w.alloc (.cells #[.int .i64 a.f0, .int .i64 a.f1, .int .i64 a.f2, .int .i64 a.f3, .int .i64 a.f4] 24)) = w0 at *
 have x0 : w0.cell? ⟨w.heap.size, 0, none⟩ = some (.int .i64 a.f0) := (cell_of HX0 0).trans rfl
 have x1 : w0.cell? ⟨w.heap.size, 1, none⟩ = some (.int .i64 a.f1) := (cell_of HX0 1).trans rfl
 have x2 : w0.cell? ⟨w.heap.size, 2, none⟩ = some (.int .i64 a.f2) := (cell_of HX0 2).trans rfl
 have x3 : w0.cell? ⟨w.heap.size, 3, none⟩ = some (.int .i64 a.f3) := (cell_of HX0 3).trans rfl
 have x4 : w0.cell? ⟨w.heap.size, 4, none⟩ = some (.int .i64 a.f4) := (cell_of HX0 4).trans rfl
 clear HX0
 go_upto_region 5 with (first | (go_at_call 56; refine (HCC.out _ HL.out).mono ?_; rintro e w1 ⟨rfl, hb1⟩; have HB1 := Aside0.mk (below_step HB0.out hb1); have HL1 := Aside0.mk (Kd.C_below HL.out hb1); have HX1 := Aside0.mk (blk_below HX.out hb1); clear hb1) | (go_at_call 57; refine (shut_told n A c l _ (by omega) HR.out HL1.out hc h3).mono ?_; rintro e w2 ⟨C, B, S, T, no, rfl, HCL, H50, (⟨rfl, HOK, hsat⟩ | ⟨⟨gq, rfl, HT⟩, hsat⟩)⟩ <;> first | (exact (Bool.noConfusion (HS.out.symm.trans hsat))) | (have HSAT := Aside0.mk hsat; clear hsat)) | ((with_reducible refine gate_dst (N := 9) rfl ?_); refine alloc_event rfl rfl rfl (alloc105 _) ?_; intro G hg4 w3 hw1 hb1; have EG := Aside0.mk hg4; clear hg4; have GG := Aside0.mk hw1; have B3 := Aside0.mk hb1; clear hw1 hb1; simp only [Act.put, List.setIfInBounds_toArray, List.set_cons_zero, List.set_cons_succ]) | ((with_reducible refine gate_store (t := 105) (p := 9) rfl ?_); refine storeRow_event (T := 105) (p := 9) (y := .tmp 20) (t := 105) (old := z105 (.int .i64 0) (.pointer none)) (C := C) (g := G) rfl rfl rfl rfl rfl GG.out ?a7 ?a8 ?a9 ?_; (case a7 => rw [HCL.out.2.1.1]; exact info105); (case a8 => rw [size_z105, HCL.out.2.1.1]); (case a9 => exact HCL.out.2.1.2.1); intro w4 hw9 hb9 hsz9; have HW4 := Aside0.mk hw9; have HG4 := Aside0.mk hb9; clear hw9 hb9 hsz9))
 have h04 : Below w1.heap.size w1 w4 ∧ _ := stored HCL.out.1 EG.out B3.out HG4.out HCL.out.2.1 HCL.out.2.2
 obtain ⟨h14, _, hC5, hM5⟩ := h04
 have hXb := blk_below HX1.out h14
 have z0 : w4.cell? ⟨w.heap.size, 0, none⟩ = some (.int .i64 a.f0) := (cell_of hXb 0).trans rfl
 have z1 : w4.cell? ⟨w.heap.size, 1, none⟩ = some (.int .i64 a.f1) := (cell_of hXb 1).trans rfl
 have z2 : w4.cell? ⟨w.heap.size, 2, none⟩ = some (.int .i64 a.f2) := (cell_of hXb 2).trans rfl
 have z3 : w4.cell? ⟨w.heap.size, 3, none⟩ = some (.int .i64 a.f3) := (cell_of hXb 3).trans rfl
 have z4 : w4.cell? ⟨w.heap.size, 4, none⟩ = some (.int .i64 a.f4) := (cell_of hXb 4).trans rfl
 have HB4 := Aside0.mk (below_step HB1.out h14)
 have HC5 := Aside0.mk hC5
 have HM5 := Aside0.mk hM5
 have HW6 := Aside0.mk HW4.out
 have c50 : w4.cell? ⟨G, 50, none⟩ = some (.pointer (some ⟨gq, 0, none⟩)) := (cell_of HW4.out 50).trans H50.out
 clear hXb h14 HX1 B3 GG HG4 hC5 hM5
 go_wp2_with fail
 go_ret2
 exact ⟨rfl, HB4.out⟩
end Go.Proofs.Ytmoiickbgokloaa.PA
