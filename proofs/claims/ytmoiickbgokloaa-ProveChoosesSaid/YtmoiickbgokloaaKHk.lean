/- Contracts by hand: prove.Most told whole, prove.Span. -/
import Derived.Test.YtmoiickbgokloaaKHj
namespace Go.Proofs.Ytmoiickbgokloaa.PA
open Go.RowKit Go.Proofs.YtmoiickbgokloaaW.PrintWords Go.Proofs.YtmoiickbgokloaaW.PrintLast Go.Proofs.YtmoiickbgokloaaW.PrintMore Go.Proofs.Ytmoiickbgokloaa.Utv
set_option linter.unusedVariables false
set_option linter.unusedSimpArgs false
/-- A line that is about one number. -/
def pt (k s : Int) : S24 := ⟨k, s, 0, 0, 0⟩
theorem pt_rn {n : Nat} {k : Int} (h0 : 0 ≤ k) (h1 : k < n) {s : Int} (hs : s = 1 ∨ s = -1) : Rn n (pt k s) := ⟨⟨h0, h1, hs, by show (-20000000000 : Int) ≤ 0; omega, by show (0 : Int) ≤ 20000000000; omega, Or.inl ⟨rfl, rfl⟩⟩, by show (-1000000 : Int) ≤ 0; omega, by show (0 : Int) ≤ 1000000; omega⟩
theorem pt_rt {n : Nat} {k : Int} (h0 : 0 ≤ k) (h1 : k < n) {s : Int} (hs : s = 1 ∨ s = -1) : Rt n (pt k s) := (pt_rn h0 h1 hs).toRt
theorem Top.bounds {l : List S24} {a : S24} {v : Int} (h : Top l a v) : -20000000000000 ≤ v ∧ v ≤ 1152921504606846976 := by
 rcases h with ⟨e, _⟩ | ⟨_, h1, h2, _⟩
 · rw [e, far_def]; omega
 · omega
set_option maxRecDepth 100000 in
set_option maxHeartbeats 1000000 in
theorem span_some (n : Nat) (A : Option Addr) (c : Nat) (l : List S24) (k : Int) (w : World) (hr : Kd.C k24 w A l.length l) (hc : l.length ≤ c) (hk : checkE n l = 0) (hk0 : 0 ≤ k) (hkn : k < n) (hs : satB l = true) (lo hi : Int) (hlo : topV l (pt k (-1)) = lo) (hhi : topV l (pt k 1) = hi) (f1 : (lo == 1152921504606846976) = false) (f2 : (hi == 1152921504606846976) = false) :
 Calls Try.prog 20 #[.int .i64 (n : Nat), .slice A l.length c, .int .i64 k] w fun e w' => e = .returned (.tuple #[.int .i64 (-lo), .int .i64 hi, .int .i64 0]) ∧ Below w.heap.size w w' ∧ (∃ v, Top l (pt k (-1)) v) ∧ ∃ v, Top l (pt k 1) v := by
 have hu105 := Try.underlying105
 have hu102 := Try.underlying102
 have hu103 := Try.underlying103
 have hu3 := Try.underlying3
 obtain ⟨h1, h2, h3, h4⟩ := check_ok hk
 have HR := Aside0.mk h4
 have HS := Aside0.mk hs
 have hli : indexE n l k = 0 := by unfold indexE; rw [if_pos hk, if_pos ⟨hk0, by omega⟩]
 have HL := Aside0.mk hr
 have HCH : ∀ W, Kd.C k24 W A l.length l → Calls Try.prog 62 #[.int .i64 n, .slice A l.length c, .int .i64 k] W fun e w' => e = .returned (.int .i64 0) ∧ Below W.heap.size W w' := fun W h => by rw [← hli]; exact pindex_calls _ A c l k W h hc
 have HCC := Aside0.mk HCH
 clear HCH hr h4 hs hli
 go_enter Try.func20, Try.ntmps20
 go_upto_region 5 with (first | (go_at_call 62; refine (HCC.out _ HL.out).mono ?_; rintro e w1 ⟨rfl, hb1⟩; have HB1 := Aside0.mk hb1; have HL1 := Aside0.mk (Kd.C_below HL.out hb1); clear hb1) | (go_at_call 57; refine (shut_told n A c l _ (by omega) HR.out HL1.out hc h3).mono ?_; rintro e w2 ⟨C, B, S, T, no, rfl, HCL, H50, (⟨rfl, HOK, hsat⟩ | ⟨⟨gq, rfl, HT⟩, hsat⟩)⟩ <;> first | (exact (Bool.noConfusion (HS.out.symm.trans hsat))) | (have HSAT := Aside0.mk hsat; clear hsat)) | ((with_reducible refine gate_dst (N := 10) rfl ?_); refine alloc_event rfl rfl rfl (alloc105 _) ?_; intro G hg4 w3 hw1 hb1; have EG := Aside0.mk hg4; clear hg4; have GG := Aside0.mk hw1; have B3 := Aside0.mk hb1; clear hw1 hb1; simp only [Act.put, List.setIfInBounds_toArray, List.set_cons_zero, List.set_cons_succ]) | ((with_reducible refine gate_store (t := 105) (p := 10) rfl ?_); refine storeRow_event (T := 105) (p := 10) (y := .tmp 22) (t := 105) (old := z105 (.int .i64 0) (.pointer none)) (C := C) (g := G) rfl rfl rfl rfl rfl GG.out ?a7 ?a8 ?a9 ?_; (case a7 => rw [HCL.out.2.1.1]; exact info105); (case a8 => rw [size_z105, HCL.out.2.1.1]); (case a9 => exact HCL.out.2.1.2.1); intro w4 hw9 hb9 hsz9; have HW4 := Aside0.mk hw9; have HG4 := Aside0.mk hb9; clear hw9 hb9 hsz9))
 have h04 : Below w1.heap.size w1 w4 ∧ _ := stored HCL.out.1 EG.out B3.out HG4.out HCL.out.2.1 HCL.out.2.2
 obtain ⟨h14, _, hC5, hM5⟩ := h04
 have HB4 := Aside0.mk (below_step HB1.out h14)
 have c50 : w4.cell? ⟨G, 50, none⟩ = some (.pointer none) := (cell_of HW4.out 50).trans H50.out
 have hCB : CloB w4 G n B T none := ⟨C, HW4.out, hC5⟩
 have hl1 : (T (endN k (-1))).1 = lo := (topV_eq (HOK.out.of HR.out (pt_rt hk0 hkn (Or.inr rfl)))).symm.trans hlo
 have hh1 : (T (endN k 1)).1 = hi := (topV_eq (HOK.out.of HR.out (pt_rt hk0 hkn (Or.inl rfl)))).symm.trans hhi
 have hwr : IntKind.i64.wrap (-lo) = -lo := by
  have hb := Top.bounds (HOK.out.of HR.out (pt_rt hk0 hkn (Or.inr rfl)))
  have he : (ofM S T (pt k (-1))).1 = lo := hl1
  rw [he] at hb
  rw [i64_w]; unfold wrap64; omega
 have hi1 := endN_lt (s := -1) hk0 hkn
 have hi2 := endN_lt (s := 1) hk0 hkn
 have hi1' : endN k (-1) < 24 := by omega
 have hi2' : endN k 1 < 24 := by omega
 have t1 := hCB.top0 hi1'
 have t2 := hCB.top0 hi2'
 rw [hl1] at t1
 rw [hh1] at t2
 have hE1 : ∀ W, Calls Try.prog 63 #[.int .i64 k, .int .i64 (-1)] W fun e w' => e = .returned (.int .i64 (endN k (-1) : Nat)) ∧ W = w' := fun W => end_same k (-1) W hk0 (by omega)
 have hE2 : ∀ W, Calls Try.prog 63 #[.int .i64 k, .int .i64 1] W fun e w' => e = .returned (.int .i64 (endN k 1 : Nat)) ∧ W = w' := fun W => end_same k 1 W hk0 (by omega)
 have HE1 := Aside0.mk hE1
 have HE2 := Aside0.mk hE2
 generalize endN k (-1) = p at *
 generalize endN k 1 = q at *
 have hp24 : (p : Int) < 24 := by omega
 have hq24 : (q : Int) < 24 := by omega
 clear hE1 hE2 h14 B3 GG HG4 hC5 hM5 hlo hhi hl1 hh1 hCB hi1 hi2 hi1' hi2'
 go_upto_region 7 with (fail)
 go_cut [11, 12] (fun v11 v12 wc => v11 = .int .i64 lo ∧ v12 = .int .i64 hi ∧ Aside0 (Below w4.heap.size w4 wc))
 case first =>
  go_region_held3 (fun w' => w'.cell? ⟨G, 2 + p * 2, none⟩ = some (.int .i64 lo) ∧ w'.cell? ⟨G, 2 + q * 2, none⟩ = some (.int .i64 hi)) (go_keep) ((go_at_call 63; first | ((with_reducible refine (HE1.out _).mono ?_); rintro e w7 ⟨rfl, rfl⟩) | ((with_reducible refine (HE2.out _).mono ?_); rintro e w7 ⟨rfl, rfl⟩)))
  all_goals (go_wp2_with fail; go_meet)
  all_goals exact ⟨rfl, rfl, ⟨(Below.refl _ _).drew⟩⟩
 case rest =>
 obtain ⟨rfl, rfl, HB7⟩ := hcut
 clear t1 t2 c50
 go_wp2_with fail
 go_ret3
 exact ⟨rfl, below_step HB4.out HB7.out, ⟨_, HOK.out.of HR.out (pt_rt hk0 hkn (Or.inr rfl))⟩, ⟨_, HOK.out.of HR.out (pt_rt hk0 hkn (Or.inl rfl))⟩⟩
set_option maxRecDepth 100000 in
set_option maxHeartbeats 1000000 in
theorem span_none1 (n : Nat) (A : Option Addr) (c : Nat) (l : List S24) (k : Int) (w : World) (hr : Kd.C k24 w A l.length l) (hc : l.length ≤ c) (hk : checkE n l = 0) (hk0 : 0 ≤ k) (hkn : k < n) (hs : satB l = true) (lo hi : Int) (hlo : topV l (pt k (-1)) = lo) (hhi : topV l (pt k 1) = hi) (f1 : (lo == 1152921504606846976) = true) :
 Calls Try.prog 20 #[.int .i64 (n : Nat), .slice A l.length c, .int .i64 k] w fun e w' => e = .returned (.tuple #[.int .i64 0, .int .i64 0, .int .i64 5]) ∧ Below w.heap.size w w' ∧ (∃ v, Top l (pt k (-1)) v) ∧ ∃ v, Top l (pt k 1) v := by
 have hu105 := Try.underlying105
 have hu102 := Try.underlying102
 have hu103 := Try.underlying103
 have hu3 := Try.underlying3
 obtain ⟨h1, h2, h3, h4⟩ := check_ok hk
 have HR := Aside0.mk h4
 have HS := Aside0.mk hs
 have hli : indexE n l k = 0 := by unfold indexE; rw [if_pos hk, if_pos ⟨hk0, by omega⟩]
 have HL := Aside0.mk hr
 have HCH : ∀ W, Kd.C k24 W A l.length l → Calls Try.prog 62 #[.int .i64 n, .slice A l.length c, .int .i64 k] W fun e w' => e = .returned (.int .i64 0) ∧ Below W.heap.size W w' := fun W h => by rw [← hli]; exact pindex_calls _ A c l k W h hc
 have HCC := Aside0.mk HCH
 clear HCH hr h4 hs hli
 go_enter Try.func20, Try.ntmps20
 go_upto_region 5 with (first | (go_at_call 62; refine (HCC.out _ HL.out).mono ?_; rintro e w1 ⟨rfl, hb1⟩; have HB1 := Aside0.mk hb1; have HL1 := Aside0.mk (Kd.C_below HL.out hb1); clear hb1) | (go_at_call 57; refine (shut_told n A c l _ (by omega) HR.out HL1.out hc h3).mono ?_; rintro e w2 ⟨C, B, S, T, no, rfl, HCL, H50, (⟨rfl, HOK, hsat⟩ | ⟨⟨gq, rfl, HT⟩, hsat⟩)⟩ <;> first | (exact (Bool.noConfusion (HS.out.symm.trans hsat))) | (have HSAT := Aside0.mk hsat; clear hsat)) | ((with_reducible refine gate_dst (N := 10) rfl ?_); refine alloc_event rfl rfl rfl (alloc105 _) ?_; intro G hg4 w3 hw1 hb1; have EG := Aside0.mk hg4; clear hg4; have GG := Aside0.mk hw1; have B3 := Aside0.mk hb1; clear hw1 hb1; simp only [Act.put, List.setIfInBounds_toArray, List.set_cons_zero, List.set_cons_succ]) | ((with_reducible refine gate_store (t := 105) (p := 10) rfl ?_); refine storeRow_event (T := 105) (p := 10) (y := .tmp 22) (t := 105) (old := z105 (.int .i64 0) (.pointer none)) (C := C) (g := G) rfl rfl rfl rfl rfl GG.out ?a7 ?a8 ?a9 ?_; (case a7 => rw [HCL.out.2.1.1]; exact info105); (case a8 => rw [size_z105, HCL.out.2.1.1]); (case a9 => exact HCL.out.2.1.2.1); intro w4 hw9 hb9 hsz9; have HW4 := Aside0.mk hw9; have HG4 := Aside0.mk hb9; clear hw9 hb9 hsz9))
 have h04 : Below w1.heap.size w1 w4 ∧ _ := stored HCL.out.1 EG.out B3.out HG4.out HCL.out.2.1 HCL.out.2.2
 obtain ⟨h14, _, hC5, hM5⟩ := h04
 have HB4 := Aside0.mk (below_step HB1.out h14)
 have c50 : w4.cell? ⟨G, 50, none⟩ = some (.pointer none) := (cell_of HW4.out 50).trans H50.out
 have hCB : CloB w4 G n B T none := ⟨C, HW4.out, hC5⟩
 have hl1 : (T (endN k (-1))).1 = lo := (topV_eq (HOK.out.of HR.out (pt_rt hk0 hkn (Or.inr rfl)))).symm.trans hlo
 have hh1 : (T (endN k 1)).1 = hi := (topV_eq (HOK.out.of HR.out (pt_rt hk0 hkn (Or.inl rfl)))).symm.trans hhi
 have hwr : IntKind.i64.wrap (-lo) = -lo := by
  have hb := Top.bounds (HOK.out.of HR.out (pt_rt hk0 hkn (Or.inr rfl)))
  have he : (ofM S T (pt k (-1))).1 = lo := hl1
  rw [he] at hb
  rw [i64_w]; unfold wrap64; omega
 have hi1 := endN_lt (s := -1) hk0 hkn
 have hi2 := endN_lt (s := 1) hk0 hkn
 have hi1' : endN k (-1) < 24 := by omega
 have hi2' : endN k 1 < 24 := by omega
 have t1 := hCB.top0 hi1'
 have t2 := hCB.top0 hi2'
 rw [hl1] at t1
 rw [hh1] at t2
 have hE1 : ∀ W, Calls Try.prog 63 #[.int .i64 k, .int .i64 (-1)] W fun e w' => e = .returned (.int .i64 (endN k (-1) : Nat)) ∧ W = w' := fun W => end_same k (-1) W hk0 (by omega)
 have hE2 : ∀ W, Calls Try.prog 63 #[.int .i64 k, .int .i64 1] W fun e w' => e = .returned (.int .i64 (endN k 1 : Nat)) ∧ W = w' := fun W => end_same k 1 W hk0 (by omega)
 have HE1 := Aside0.mk hE1
 have HE2 := Aside0.mk hE2
 generalize endN k (-1) = p at *
 generalize endN k 1 = q at *
 have hp24 : (p : Int) < 24 := by omega
 have hq24 : (q : Int) < 24 := by omega
 clear hE1 hE2 h14 B3 GG HG4 hC5 hM5 hlo hhi hl1 hh1 hCB hi1 hi2 hi1' hi2'
 go_upto_region 7 with (fail)
 go_cut [11, 12] (fun v11 v12 wc => v11 = .int .i64 lo ∧ v12 = .int .i64 hi ∧ Aside0 (Below w4.heap.size w4 wc))
 case first =>
  go_region_held3 (fun w' => w'.cell? ⟨G, 2 + p * 2, none⟩ = some (.int .i64 lo) ∧ w'.cell? ⟨G, 2 + q * 2, none⟩ = some (.int .i64 hi)) (go_keep) ((go_at_call 63; first | ((with_reducible refine (HE1.out _).mono ?_); rintro e w7 ⟨rfl, rfl⟩) | ((with_reducible refine (HE2.out _).mono ?_); rintro e w7 ⟨rfl, rfl⟩)))
  all_goals (go_wp2_with fail; go_meet)
  all_goals exact ⟨rfl, rfl, ⟨(Below.refl _ _).drew⟩⟩
 case rest =>
 obtain ⟨rfl, rfl, HB7⟩ := hcut
 clear t1 t2 c50
 go_wp2_with fail
 go_ret3
 exact ⟨rfl, below_step HB4.out HB7.out, ⟨_, HOK.out.of HR.out (pt_rt hk0 hkn (Or.inr rfl))⟩, ⟨_, HOK.out.of HR.out (pt_rt hk0 hkn (Or.inl rfl))⟩⟩
set_option maxRecDepth 100000 in
set_option maxHeartbeats 1000000 in
theorem span_none2 (n : Nat) (A : Option Addr) (c : Nat) (l : List S24) (k : Int) (w : World) (hr : Kd.C k24 w A l.length l) (hc : l.length ≤ c) (hk : checkE n l = 0) (hk0 : 0 ≤ k) (hkn : k < n) (hs : satB l = true) (lo hi : Int) (hlo : topV l (pt k (-1)) = lo) (hhi : topV l (pt k 1) = hi) (f1 : (lo == 1152921504606846976) = false) (f2 : (hi == 1152921504606846976) = true) :
 Calls Try.prog 20 #[.int .i64 (n : Nat), .slice A l.length c, .int .i64 k] w fun e w' => e = .returned (.tuple #[.int .i64 0, .int .i64 0, .int .i64 5]) ∧ Below w.heap.size w w' ∧ (∃ v, Top l (pt k (-1)) v) ∧ ∃ v, Top l (pt k 1) v := by
 have hu105 := Try.underlying105
 have hu102 := Try.underlying102
 have hu103 := Try.underlying103
 have hu3 := Try.underlying3
 obtain ⟨h1, h2, h3, h4⟩ := check_ok hk
 have HR := Aside0.mk h4
 have HS := Aside0.mk hs
 have hli : indexE n l k = 0 := by unfold indexE; rw [if_pos hk, if_pos ⟨hk0, by omega⟩]
 have HL := Aside0.mk hr
 have HCH : ∀ W, Kd.C k24 W A l.length l → Calls Try.prog 62 #[.int .i64 n, .slice A l.length c, .int .i64 k] W fun e w' => e = .returned (.int .i64 0) ∧ Below W.heap.size W w' := fun W h => by rw [← hli]; exact pindex_calls _ A c l k W h hc
 have HCC := Aside0.mk HCH
 clear HCH hr h4 hs hli
 go_enter Try.func20, Try.ntmps20
 go_upto_region 5 with (first | (go_at_call 62; refine (HCC.out _ HL.out).mono ?_; rintro e w1 ⟨rfl, hb1⟩; have HB1 := Aside0.mk hb1; have HL1 := Aside0.mk (Kd.C_below HL.out hb1); clear hb1) | (go_at_call 57; refine (shut_told n A c l _ (by omega) HR.out HL1.out hc h3).mono ?_; rintro e w2 ⟨C, B, S, T, no, rfl, HCL, H50, (⟨rfl, HOK, hsat⟩ | ⟨⟨gq, rfl, HT⟩, hsat⟩)⟩ <;> first | (exact (Bool.noConfusion (HS.out.symm.trans hsat))) | (have HSAT := Aside0.mk hsat; clear hsat)) | ((with_reducible refine gate_dst (N := 10) rfl ?_); refine alloc_event rfl rfl rfl (alloc105 _) ?_; intro G hg4 w3 hw1 hb1; have EG := Aside0.mk hg4; clear hg4; have GG := Aside0.mk hw1; have B3 := Aside0.mk hb1; clear hw1 hb1; simp only [Act.put, List.setIfInBounds_toArray, List.set_cons_zero, List.set_cons_succ]) | ((with_reducible refine gate_store (t := 105) (p := 10) rfl ?_); refine storeRow_event (T := 105) (p := 10) (y := .tmp 22) (t := 105) (old := z105 (.int .i64 0) (.pointer none)) (C := C) (g := G) rfl rfl rfl rfl rfl GG.out ?a7 ?a8 ?a9 ?_; (case a7 => rw [HCL.out.2.1.1]; exact info105); (case a8 => rw [size_z105, HCL.out.2.1.1]); (case a9 => exact HCL.out.2.1.2.1); intro w4 hw9 hb9 hsz9; have HW4 := Aside0.mk hw9; have HG4 := Aside0.mk hb9; clear hw9 hb9 hsz9))
 have h04 : Below w1.heap.size w1 w4 ∧ _ := stored HCL.out.1 EG.out B3.out HG4.out HCL.out.2.1 HCL.out.2.2
 obtain ⟨h14, _, hC5, hM5⟩ := h04
 have HB4 := Aside0.mk (below_step HB1.out h14)
 have c50 : w4.cell? ⟨G, 50, none⟩ = some (.pointer none) := (cell_of HW4.out 50).trans H50.out
 have hCB : CloB w4 G n B T none := ⟨C, HW4.out, hC5⟩
 have hl1 : (T (endN k (-1))).1 = lo := (topV_eq (HOK.out.of HR.out (pt_rt hk0 hkn (Or.inr rfl)))).symm.trans hlo
 have hh1 : (T (endN k 1)).1 = hi := (topV_eq (HOK.out.of HR.out (pt_rt hk0 hkn (Or.inl rfl)))).symm.trans hhi
 have hwr : IntKind.i64.wrap (-lo) = -lo := by
  have hb := Top.bounds (HOK.out.of HR.out (pt_rt hk0 hkn (Or.inr rfl)))
  have he : (ofM S T (pt k (-1))).1 = lo := hl1
  rw [he] at hb
  rw [i64_w]; unfold wrap64; omega
 have hi1 := endN_lt (s := -1) hk0 hkn
 have hi2 := endN_lt (s := 1) hk0 hkn
 have hi1' : endN k (-1) < 24 := by omega
 have hi2' : endN k 1 < 24 := by omega
 have t1 := hCB.top0 hi1'
 have t2 := hCB.top0 hi2'
 rw [hl1] at t1
 rw [hh1] at t2
 have hE1 : ∀ W, Calls Try.prog 63 #[.int .i64 k, .int .i64 (-1)] W fun e w' => e = .returned (.int .i64 (endN k (-1) : Nat)) ∧ W = w' := fun W => end_same k (-1) W hk0 (by omega)
 have hE2 : ∀ W, Calls Try.prog 63 #[.int .i64 k, .int .i64 1] W fun e w' => e = .returned (.int .i64 (endN k 1 : Nat)) ∧ W = w' := fun W => end_same k 1 W hk0 (by omega)
 have HE1 := Aside0.mk hE1
 have HE2 := Aside0.mk hE2
 generalize endN k (-1) = p at *
 generalize endN k 1 = q at *
 have hp24 : (p : Int) < 24 := by omega
 have hq24 : (q : Int) < 24 := by omega
 clear hE1 hE2 h14 B3 GG HG4 hC5 hM5 hlo hhi hl1 hh1 hCB hi1 hi2 hi1' hi2'
 go_upto_region 7 with (fail)
 go_cut [11, 12] (fun v11 v12 wc => v11 = .int .i64 lo ∧ v12 = .int .i64 hi ∧ Aside0 (Below w4.heap.size w4 wc))
 case first =>
  go_region_held3 (fun w' => w'.cell? ⟨G, 2 + p * 2, none⟩ = some (.int .i64 lo) ∧ w'.cell? ⟨G, 2 + q * 2, none⟩ = some (.int .i64 hi)) (go_keep) ((go_at_call 63; first | ((with_reducible refine (HE1.out _).mono ?_); rintro e w7 ⟨rfl, rfl⟩) | ((with_reducible refine (HE2.out _).mono ?_); rintro e w7 ⟨rfl, rfl⟩)))
  all_goals (go_wp2_with fail; go_meet)
  all_goals exact ⟨rfl, rfl, ⟨(Below.refl _ _).drew⟩⟩
 case rest =>
 obtain ⟨rfl, rfl, HB7⟩ := hcut
 clear t1 t2 c50
 go_wp2_with fail
 go_ret3
 exact ⟨rfl, below_step HB4.out HB7.out, ⟨_, HOK.out.of HR.out (pt_rt hk0 hkn (Or.inr rfl))⟩, ⟨_, HOK.out.of HR.out (pt_rt hk0 hkn (Or.inl rfl))⟩⟩
set_option maxRecDepth 100000 in
set_option maxHeartbeats 1000000 in
theorem span_clash (n : Nat) (A : Option Addr) (c : Nat) (l : List S24) (k : Int) (w : World) (hr : Kd.C k24 w A l.length l) (hc : l.length ≤ c) (hk : checkE n l = 0) (hk0 : 0 ≤ k) (hkn : k < n) (hs : satB l = false) :
 Calls Try.prog 20 #[.int .i64 (n : Nat), .slice A l.length c, .int .i64 k] w fun e w' => e = .returned (.tuple #[.int .i64 0, .int .i64 0, .int .i64 10]) ∧ Below w.heap.size w w' := by
 have hu105 := Try.underlying105
 have hu102 := Try.underlying102
 have hu103 := Try.underlying103
 have hu3 := Try.underlying3
 obtain ⟨h1, h2, h3, h4⟩ := check_ok hk
 have HR := Aside0.mk h4
 have HS := Aside0.mk hs
 have hli : indexE n l k = 0 := by unfold indexE; rw [if_pos hk, if_pos ⟨hk0, by omega⟩]
 have HL := Aside0.mk hr
 have HCH : ∀ W, Kd.C k24 W A l.length l → Calls Try.prog 62 #[.int .i64 n, .slice A l.length c, .int .i64 k] W fun e w' => e = .returned (.int .i64 0) ∧ Below W.heap.size W w' := fun W h => by rw [← hli]; exact pindex_calls _ A c l k W h hc
 have HCC := Aside0.mk HCH
 clear HCH hr h4 hs hli
 go_enter Try.func20, Try.ntmps20
 go_upto_region 5 with (first | (go_at_call 62; refine (HCC.out _ HL.out).mono ?_; rintro e w1 ⟨rfl, hb1⟩; have HB1 := Aside0.mk hb1; have HL1 := Aside0.mk (Kd.C_below HL.out hb1); clear hb1) | (go_at_call 57; refine (shut_told n A c l _ (by omega) HR.out HL1.out hc h3).mono ?_; rintro e w2 ⟨C, B, S, T, no, rfl, HCL, H50, (⟨rfl, HOK, hsat⟩ | ⟨⟨gq, rfl, HT⟩, hsat⟩)⟩ <;> first | (exact (Bool.noConfusion (HS.out.symm.trans hsat))) | (have HSAT := Aside0.mk hsat; clear hsat)) | ((with_reducible refine gate_dst (N := 10) rfl ?_); refine alloc_event rfl rfl rfl (alloc105 _) ?_; intro G hg4 w3 hw1 hb1; have EG := Aside0.mk hg4; clear hg4; have GG := Aside0.mk hw1; have B3 := Aside0.mk hb1; clear hw1 hb1; simp only [Act.put, List.setIfInBounds_toArray, List.set_cons_zero, List.set_cons_succ]) | ((with_reducible refine gate_store (t := 105) (p := 10) rfl ?_); refine storeRow_event (T := 105) (p := 10) (y := .tmp 22) (t := 105) (old := z105 (.int .i64 0) (.pointer none)) (C := C) (g := G) rfl rfl rfl rfl rfl GG.out ?a7 ?a8 ?a9 ?_; (case a7 => rw [HCL.out.2.1.1]; exact info105); (case a8 => rw [size_z105, HCL.out.2.1.1]); (case a9 => exact HCL.out.2.1.2.1); intro w4 hw9 hb9 hsz9; have HW4 := Aside0.mk hw9; have HG4 := Aside0.mk hb9; clear hw9 hb9 hsz9))
 have h04 : Below w1.heap.size w1 w4 ∧ _ := stored HCL.out.1 EG.out B3.out HG4.out HCL.out.2.1 HCL.out.2.2
 obtain ⟨h14, _, hC5, hM5⟩ := h04
 have HB4 := Aside0.mk (below_step HB1.out h14)
 have c50 : w4.cell? ⟨G, 50, none⟩ = some (.pointer (some ⟨gq, 0, none⟩)) := (cell_of HW4.out 50).trans H50.out
 clear h14 B3 GG HG4 hC5 hM5
 go_wp2_with fail
 go_ret3
 exact ⟨rfl, HB4.out⟩
set_option maxRecDepth 100000 in
set_option maxHeartbeats 1000000 in
theorem span_err (n : Int) (A : Option Addr) (c : Nat) (l : List S24) (k : Int) (w : World) (hr : Kd.C k24 w A l.length l) (hc : l.length ≤ c) (hk : indexE n l k ≠ 0) :
 Calls Try.prog 20 #[.int .i64 n, .slice A l.length c, .int .i64 k] w fun e w' => e = .returned (.tuple #[.int .i64 0, .int .i64 0, .int .i64 (indexE n l k)]) ∧ Below w.heap.size w w' := by
 have HL := Aside0.mk hr
 have hcb : (indexE n l k != 0) = true := by rw [bne_iff_ne]; exact hk
 clear hr hk
 go_enter Try.func20, Try.ntmps20
 go_wp2_with (go_at_call 62; refine (pindex_calls n A c l k _ HL.out hc).mono ?_; rintro e w1 ⟨rfl, hb1⟩; have HB1 := Aside0.mk hb1; clear hb1)
 go_ret3
 exact ⟨rfl, HB1.out⟩
set_option maxRecDepth 100000 in
set_option maxHeartbeats 1000000 in
theorem most_err (n : Int) (A : Option Addr) (c : Nat) (l : List S24) (a : S24) (w : World) (hr : Kd.C k24 w A l.length l) (hc : l.length ≤ c) (hk : lineE n l a ≠ 0) :
 Calls Try.prog 18 #[.int .i64 n, .slice A l.length c, .agg #[.int .i64 a.f0, .int .i64 a.f1, .int .i64 a.f2, .int .i64 a.f3, .int .i64 a.f4]] w fun e w' => e = .returned (.tuple #[.int .i64 0, .int .i64 (lineE n l a)]) ∧ Below w.heap.size w w' := by
 have hu24 := Try.underlying24
 have hb0 := (Below.refl _ w).alloc (Nat.le_refl _) (.cells #[.int .i64 a.f0, .int .i64 a.f1, .int .i64 a.f2, .int .i64 a.f3, .int .i64 a.f4] 24)
 have HL := Aside0.mk (Kd.C_below hr hb0)
 have HB0 := Aside0.mk hb0
 have HX0 := heap1_0 w (.cells #[.int .i64 a.f0, .int .i64 a.f1, .int .i64 a.f2, .int .i64 a.f3, .int .i64 a.f4] 24)
 have hcb : (lineE n l a != 0) = true := by rw [bne_iff_ne]; exact hk
 clear hr hb0 hk
 go_enter Try.func18, Try.ntmps18
 go_upto_region 1 with (fail)
 generalize (w.alloc (.cells #[.int .i64 a.f0, .int .i64 a.f1, .int .i64 a.f2, .int .i64 a.f3, .int .i64 a.f4] 24)) = w0 at *
 have x0 : w0.cell? ⟨w.heap.size, 0, none⟩ = some (.int .i64 a.f0) := (cell_of HX0 0).trans rfl
 have x1 : w0.cell? ⟨w.heap.size, 1, none⟩ = some (.int .i64 a.f1) := (cell_of HX0 1).trans rfl
 have x2 : w0.cell? ⟨w.heap.size, 2, none⟩ = some (.int .i64 a.f2) := (cell_of HX0 2).trans rfl
 have x3 : w0.cell? ⟨w.heap.size, 3, none⟩ = some (.int .i64 a.f3) := (cell_of HX0 3).trans rfl
 have x4 : w0.cell? ⟨w.heap.size, 4, none⟩ = some (.int .i64 a.f4) := (cell_of HX0 4).trans rfl
 clear HX0
 go_wp2_with (go_at_call 56; refine (line_calls n A c l a _ HL.out hc).mono ?_; rintro e w1 ⟨rfl, hb1⟩; have HB1 := Aside0.mk (below_step HB0.out hb1); clear hb1)
 go_ret2
 exact ⟨rfl, HB1.out⟩
noncomputable def prove_Most.g (n : Int) (l : List S24) (a : S24) : Int × Int :=
 if lineE n l a = 0 then (if satB l = true then (if topV l a = 1152921504606846976 then (0, 5) else (topV l a, 0)) else (0, 10)) else (0, lineE n l a)
noncomputable def prove_Span.g (n : Int) (l : List S24) (k : Int) : Int × Int × Int :=
 if indexE n l k = 0 then (if satB l = true then (if topV l (pt k (-1)) = 1152921504606846976 ∨ topV l (pt k 1) = 1152921504606846976 then (0, 0, 5) else (-topV l (pt k (-1)), topV l (pt k 1), 0)) else (0, 0, 10)) else (0, 0, indexE n l k)
theorem lineE_ok {n : Int} {l : List S24} {a : S24} (hk : lineE n l a = 0) : checkE n l = 0 ∧ rightB n a = true := by
 unfold lineE at hk
 by_cases h : checkE n l = 0
 · rw [if_pos h] at hk
   refine ⟨h, ?_⟩
   cases e : rightB n a
   · rw [e] at hk; simp at hk
   · rfl
 · rw [if_neg h] at hk; exact (h hk).elim
theorem indexE_ok {n : Int} {l : List S24} {k : Int} (hk : indexE n l k = 0) : checkE n l = 0 ∧ 0 ≤ k ∧ k < n := by
 unfold indexE at hk
 by_cases h : checkE n l = 0
 · rw [if_pos h] at hk
   refine ⟨h, ?_⟩
   by_cases h2 : 0 ≤ k ∧ k ≤ n - 1
   · omega
   · rw [if_neg h2] at hk; omega
 · rw [if_neg h] at hk; exact (h hk).elim
theorem Most_told (n : Int) (A : Option Addr) (c : Nat) (l : List S24) (a : S24) (w : World) (hr : Kd.C k24 w A l.length l) (hc : l.length ≤ c) :
 Calls Try.prog 18 #[.int .i64 n, .slice A l.length c, .agg #[.int .i64 a.f0, .int .i64 a.f1, .int .i64 a.f2, .int .i64 a.f3, .int .i64 a.f4]] w fun e w' => e = .returned (.tuple #[.int .i64 (prove_Most.g n l a).1, .int .i64 (prove_Most.g n l a).2]) ∧ Below w.heap.size w w' ∧ (lineE n l a = 0 → satB l = true → ∃ v, Top l a v) := by
 unfold prove_Most.g
 by_cases hk : lineE n l a = 0
 · rw [if_pos hk]
   obtain ⟨k1, k2⟩ := lineE_ok hk
   obtain ⟨h1, h2, h3, h4⟩ := check_ok k1
   obtain ⟨m, rfl⟩ : ∃ m : Nat, n = m := ⟨n.toNat, by omega⟩
   cases hs : satB l
   · rw [if_neg (by simp)]
     exact (most_clash m A c l a w hr hc ⟨k1, k2⟩ hs).mono fun e w' h => ⟨h.1, h.2, fun _ h' => by cases h'⟩
   · rw [if_pos rfl]
     by_cases hf : topV l a = 1152921504606846976
     · rw [if_pos hf]
       exact (most_none m A c l a w hr hc ⟨k1, k2⟩ hs _ rfl (by simpa using hf)).mono fun e w' h => ⟨h.1, h.2.1, fun _ _ => h.2.2⟩
     · rw [if_neg hf]
       exact (most_some m A c l a w hr hc ⟨k1, k2⟩ hs _ rfl (by simpa using hf)).mono fun e w' h => ⟨h.1, h.2.1, fun _ _ => h.2.2⟩
 · rw [if_neg hk]
   exact (most_err n A c l a w hr hc hk).mono fun e w' h => ⟨h.1, h.2, fun h' => (hk h').elim⟩
theorem Most_calls (n : Int) (A : Option Addr) (c : Nat) (l : List S24) (a : S24) (w : World) (hr : Kd.C k24 w A l.length l) (hc : l.length ≤ c) :
 Calls Try.prog 18 #[.int .i64 n, .slice A l.length c, .agg #[.int .i64 a.f0, .int .i64 a.f1, .int .i64 a.f2, .int .i64 a.f3, .int .i64 a.f4]] w fun e w' => e = .returned (.tuple #[.int .i64 (prove_Most.g n l a).1, .int .i64 (prove_Most.g n l a).2]) ∧ Below w.heap.size w w' :=
 (Most_told n A c l a w hr hc).mono fun e w' h => ⟨h.1, h.2.1⟩
theorem Span_told (n : Int) (A : Option Addr) (c : Nat) (l : List S24) (k : Int) (w : World) (hr : Kd.C k24 w A l.length l) (hc : l.length ≤ c) :
 Calls Try.prog 20 #[.int .i64 n, .slice A l.length c, .int .i64 k] w fun e w' => e = .returned (.tuple #[.int .i64 (prove_Span.g n l k).1, .int .i64 (prove_Span.g n l k).2.1, .int .i64 (prove_Span.g n l k).2.2]) ∧ Below w.heap.size w w' ∧ (indexE n l k = 0 → satB l = true → (∃ v, Top l (pt k (-1)) v) ∧ ∃ v, Top l (pt k 1) v) := by
 unfold prove_Span.g
 by_cases hk : indexE n l k = 0
 · rw [if_pos hk]
   obtain ⟨k1, k2, k3⟩ := indexE_ok hk
   obtain ⟨h1, h2, h3, h4⟩ := check_ok k1
   obtain ⟨m, rfl⟩ : ∃ m : Nat, n = m := ⟨n.toNat, by omega⟩
   cases hs : satB l
   · rw [if_neg (by simp)]
     exact (span_clash m A c l k w hr hc k1 k2 k3 hs).mono fun e w' h => ⟨h.1, h.2, fun _ h' => by cases h'⟩
   · rw [if_pos rfl]
     by_cases f1 : topV l (pt k (-1)) = 1152921504606846976
     · rw [if_pos (Or.inl f1)]
       exact (span_none1 m A c l k w hr hc k1 k2 k3 hs _ _ rfl rfl (by simpa using f1)).mono fun e w' h => ⟨h.1, h.2.1, fun _ _ => h.2.2⟩
     · by_cases f2 : topV l (pt k 1) = 1152921504606846976
       · rw [if_pos (Or.inr f2)]
         exact (span_none2 m A c l k w hr hc k1 k2 k3 hs _ _ rfl rfl (by simpa using f1) (by simpa using f2)).mono fun e w' h => ⟨h.1, h.2.1, fun _ _ => h.2.2⟩
       · rw [if_neg (fun h => h.elim f1 f2)]
         exact (span_some m A c l k w hr hc k1 k2 k3 hs _ _ rfl rfl (by simpa using f1) (by simpa using f2)).mono fun e w' h => ⟨h.1, h.2.1, fun _ _ => h.2.2⟩
 · rw [if_neg hk]
   exact (span_err n A c l k w hr hc hk).mono fun e w' h => ⟨h.1, h.2, fun h' => (hk h').elim⟩
theorem Span_calls (n : Int) (A : Option Addr) (c : Nat) (l : List S24) (k : Int) (w : World) (hr : Kd.C k24 w A l.length l) (hc : l.length ≤ c) :
 Calls Try.prog 20 #[.int .i64 n, .slice A l.length c, .int .i64 k] w fun e w' => e = .returned (.tuple #[.int .i64 (prove_Span.g n l k).1, .int .i64 (prove_Span.g n l k).2.1, .int .i64 (prove_Span.g n l k).2.2]) ∧ Below w.heap.size w w' :=
 (Span_told n A c l k w hr hc).mono fun e w' h => ⟨h.1, h.2.1⟩
set_option maxRecDepth 100000 in
set_option maxHeartbeats 1000000 in
/-- prove.spare: no numbers fit the rest. -/
theorem spare_calls (n : Nat) (sA : Option Addr) (sn sc : Nat) (a : S24) (A : Option Addr) (c : Nat) (l : List S24) (w : World) (hr : Kd.C k24 w A l.length l) (hc : l.length ≤ c) (hk : checkE n l = 0) (b : Bool) (hb : satB l = !b) :
 Calls Try.prog 68 #[.agg #[.int .i64 (n : Nat), .slice sA sn sc], .agg #[.int .i64 a.f0, .int .i64 a.f1, .int .i64 a.f2, .int .i64 a.f3, .int .i64 a.f4], .slice A l.length c] w fun e w' => e = .returned (.bool b) ∧ Below w.heap.size w w' := by
 have hu24 := Try.underlying24
 have hu116 := Try.underlying116
 have hu105 := Try.underlying105
 obtain ⟨h1, h2, h3, h4⟩ := check_ok hk
 have HR := Aside0.mk h4
 have HBB := Aside0.mk hb
 have hb0 := ((Below.refl _ w).alloc (Nat.le_refl _) (.cells #[.int .i64 (n : Nat), .slice sA sn sc] 116)).alloc (by simp) (.cells #[.int .i64 a.f0, .int .i64 a.f1, .int .i64 a.f2, .int .i64 a.f3, .int .i64 a.f4] 24)
 have HL := Aside0.mk (Kd.C_below hr hb0)
 have HB0 := Aside0.mk hb0
 clear hr hb0 h4 hb
 go_enter Try.func68, Try.ntmps68
 go_wp2_with (go_at_call 57; refine (shut_told n A c l _ (by omega) HR.out HL.out hc h3).mono ?_; rintro e w2 ⟨C, B, S, T, no, rfl, HCL, H50, (⟨rfl, HOK, hsat⟩ | ⟨⟨gq, rfl, HT⟩, hsat⟩)⟩ <;> (have hf := field105 C _ H50.out; have HSAT := Aside0.mk hsat; clear hsat))
 · go_ret
   have e := HSAT.out.symm.trans HBB.out
   have e2 : b = false := by revert e; cases b <;> decide
   subst e2
   exact ⟨rfl, below_step HB0.out HCL.out.1⟩
 · go_ret
   have e := HSAT.out.symm.trans HBB.out
   have e2 : b = true := by revert e; cases b <;> decide
   subst e2
   exact ⟨rfl, below_step HB0.out HCL.out.1⟩
set_option maxRecDepth 100000 in
set_option maxHeartbeats 1000000 in
/-- prove.entailed: the rest entails the line. -/
theorem entailed_calls (n : Nat) (sA : Option Addr) (sn sc : Nat) (a : S24) (A : Option Addr) (c : Nat) (l : List S24) (w : World) (hr : Kd.C k24 w A l.length l) (hc : l.length ≤ c) (hk : checkE n l = 0) (ha : rightB n a = true) (b : Bool) (hb : entB l a = b) :
 Calls Try.prog 67 #[.agg #[.int .i64 (n : Nat), .slice sA sn sc], .agg #[.int .i64 a.f0, .int .i64 a.f1, .int .i64 a.f2, .int .i64 a.f3, .int .i64 a.f4], .slice A l.length c] w fun e w' => e = .returned (.bool b) ∧ Below w.heap.size w w' := by
 have hu24 := Try.underlying24
 have hu116 := Try.underlying116
 have hb0 := ((Below.refl _ w).alloc (Nat.le_refl _) (.cells #[.int .i64 (n : Nat), .slice sA sn sc] 116)).alloc (by simp) (.cells #[.int .i64 a.f0, .int .i64 a.f1, .int .i64 a.f2, .int .i64 a.f3, .int .i64 a.f4] 24)
 have HL := Aside0.mk (Kd.C_below hr hb0)
 have HB0 := Aside0.mk hb0
 have HCH : ∀ W, Kd.C k24 W A l.length l → Calls Try.prog 65 #[.int .i64 (n : Nat), .slice A l.length c, .agg #[.int .i64 a.f0, .int .i64 a.f1, .int .i64 a.f2, .int .i64 a.f3, .int .i64 a.f4]] W fun e w' => e = .returned (.bool b) ∧ Below W.heap.size W w' := fun W h => hb ▸ entails_calls n A c l a W h hc hk ha
 have HCC := Aside0.mk HCH
 clear hr hb0 HCH hb
 go_enter Try.func67, Try.ntmps67
 go_wp2_with (go_at_call 65; refine (HCC.out _ HL.out).mono ?_; rintro e w1 ⟨rfl, hb1⟩; have HB1 := Aside0.mk (below_step HB0.out hb1); clear hb1)
 go_ret
 exact ⟨rfl, HB1.out⟩
end Go.Proofs.Ytmoiickbgokloaa.PA
