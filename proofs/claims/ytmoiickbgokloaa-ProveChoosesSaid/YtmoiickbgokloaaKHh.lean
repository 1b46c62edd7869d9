/- Contracts by hand, in the print's form: prove.entails, Most, Span, and whether a line is spare. -/
import Derived.Test.YtmoiickbgokloaaKHg
namespace Go.Proofs.Ytmoiickbgokloaa.PA
open Go.RowKit Go.Proofs.YtmoiickbgokloaaW.PrintWords Go.Proofs.YtmoiickbgokloaaW.PrintLast Go.Proofs.YtmoiickbgokloaaW.PrintMore Go.Proofs.Ytmoiickbgokloaa.Utv
set_option linter.unusedVariables false
set_option linter.unusedSimpArgs false
theorem exec_loadRow {P : Program} {a : Act} {o : Oper} {T : TypeId} {p : Tmp} {W : World} (ho : o.op = .load T (.tmp p)) {g : Nat} {C : Array Value} {t : TypeId} {d : TypeDesc}
 (hx : a.eval (.tmp p) = .pointer (some ⟨g, 0, none⟩)) (hg : W.heap[g]? = some (.cells C t (0, 0))) (hu : P.underlying T = some d) (hd2 : (match d with | .struct _ | .array _ _ => true | _ => false) = true) (hi : (P.info? T).map (·.size) = some C.size) :
 (execOp a.eval o).run P W = .ok (.value (.agg C)) W := by
 unfold execOp
 simp only [ho, hx, Instr.loadAt, Instr.sureAddr, Sem.run_bind, Sem.run_pure, Result.andThen_ok, run_loadVar_row W g t T C (0, 0) d hg hu hd2 hi]
theorem field102 (m : Int) (p : Option Addr) (W : World) : (Instr.field 102 (.agg #[.int .i64 m, .pointer p]) 0).run Try.prog W = .ok (.int .i64 m) W := by
 have hu := Try.underlying102
 have hu2 := Try.underlying3
 unfold Instr.field
 simp only [Sem.run_bind, run_underlying hu, Result.andThen_ok]
 simp [part, isAgg, Sem.run_bind, run_underlying hu2, asAgg]
theorem stored {w1 w2 w3 w4 : World} {G n B : Nat} {C : Array Value} {S : Mt} {T : Nat → Int × Option Tree} {no : Option Addr} (hb : Below w1.heap.size w1 w2) (hE : G = w2.heap.size) (hb3 : Below w2.heap.size w2 w3)
 (hg : w3.grownBy w4 (some G)) (hC : Clo w2 C n B T no) (hM : Mat w2 B S) : Below w1.heap.size w1 w4 ∧ Below w2.heap.size w2 w4 ∧ Clo w4 C n B T no ∧ Mat w4 B S := by
 have h24 := below_of_grown hb3 (show w2.heap.size ≤ G by omega) hg
 exact ⟨below_step hb h24, h24, hC.stays (Stays.below h24 rfl), hM.below h24⟩
theorem cell_below {w w1 : World} (h : Below w.heap.size w w1) {a : Addr} {v : Value} (hc : w.cell? a = some v) : w1.cell? a = some v := pw_cell_below h hc
set_option maxRecDepth 100000 in
set_option maxHeartbeats 1000000 in
theorem entails_ok (n : Nat) (A1 : Option Addr) (c1 : Nat) (l1 : List S24) (a : S24) (w : World) (hr1 : Kd.C k24 w A1 l1.length l1) (hc1 : l1.length ≤ c1) (hc : checkE n l1 = 0) (ha : rightB n a = true) (b : Bool) (hb : entB l1 a = b) :
 Calls Try.prog 65 #[.int .i64 (n : Nat), .slice A1 l1.length c1, .agg #[.int .i64 a.f0, .int .i64 a.f1, .int .i64 a.f2, .int .i64 a.f3, .int .i64 a.f4]] w fun e w' => e = .returned (.bool b) ∧ Below w.heap.size w w' := by
 have hu105 := Try.underlying105
 have hu24 := Try.underlying24
 have hu102 := Try.underlying102
 obtain ⟨h1, h2, h3, h4⟩ := check_ok hc
 have r := rt_of_right ha
 have HR := Aside0.mk h4
 have HBB := Aside0.mk hb
 have hf2 := field102
 have hb0 := (Below.refl _ w).alloc (Nat.le_refl _) (.cells #[.int .i64 a.f0, .int .i64 a.f1, .int .i64 a.f2, .int .i64 a.f3, .int .i64 a.f4] 24)
 have HL := Aside0.mk (Kd.C_below hr1 hb0)
 have HB0 := Aside0.mk hb0
 have HX0 := Aside0.mk (heap1_0 w (.cells #[.int .i64 a.f0, .int .i64 a.f1, .int .i64 a.f2, .int .i64 a.f3, .int .i64 a.f4] 24))
 clear h4 hc ha hb hr1 hb0
 go_enter Try.func65, Try.ntmps65
 go_upto_region 1 with (fail)
 generalize (w.alloc (.cells #[.int .i64 a.f0, .int .i64 a.f1, .int .i64 a.f2, .int .i64 a.f3, .int .i64 a.f4] 24)) = w0 at *
 go_upto_region 2 with (first | (go_at_call 57; refine (shut_told n A1 c1 l1 _ (by omega) HR.out HL.out hc1 h3).mono ?_; rintro e w2 ⟨C, B, S, T, no, rfl, HCL, H50, (⟨rfl, HOK, hsat⟩ | ⟨⟨gq, rfl, HT⟩, hsat⟩)⟩ <;> (have HSAT := Aside0.mk hsat; clear hsat)) | ((with_reducible refine gate_dst (N := 7) rfl ?_); refine alloc_event rfl rfl rfl (alloc105 _) ?_; intro G hg4 w3 hw1 hb1; have EG := Aside0.mk hg4; clear hg4; have GG := Aside0.mk hw1; have B3 := Aside0.mk hb1; clear hw1 hb1; simp only [Act.put, List.setIfInBounds_toArray, List.set_cons_zero, List.set_cons_succ]) | ((with_reducible refine gate_store (t := 105) (p := 7) rfl ?_); refine storeRow_event (T := 105) (p := 7) (y := .tmp 10) (t := 105) (old := z105 (.int .i64 0) (.pointer none)) (C := C) (g := G) rfl rfl rfl rfl rfl GG.out ?a7 ?a8 ?a9 ?_; (case a7 => rw [HCL.out.2.1.1]; exact info105); (case a8 => rw [size_z105, HCL.out.2.1.1]); (case a9 => exact HCL.out.2.1.2.1); intro w4 hw9 hb9 hsz9; have HW4 := Aside0.mk hw9; have HG4 := Aside0.mk hb9; clear hw9 hb9 hsz9))
 · have c50 : w4.cell? ⟨G, 50, none⟩ = some (.pointer none) := (cell_of HW4.out 50).trans H50.out
   obtain ⟨h04, _, hC5, hM5⟩ := stored HCL.out.1 EG.out B3.out HG4.out HCL.out.2.1 HCL.out.2.2
   have hXb := blk_below HX0.out h04
   have x0 : w4.cell? ⟨w.heap.size, 0, none⟩ = some (.int .i64 a.f0) := (cell_of hXb 0).trans rfl
   have x1 : w4.cell? ⟨w.heap.size, 1, none⟩ = some (.int .i64 a.f1) := (cell_of hXb 1).trans rfl
   have x2 : w4.cell? ⟨w.heap.size, 2, none⟩ = some (.int .i64 a.f2) := (cell_of hXb 2).trans rfl
   have x3 : w4.cell? ⟨w.heap.size, 3, none⟩ = some (.int .i64 a.f3) := (cell_of hXb 3).trans rfl
   have x4 : w4.cell? ⟨w.heap.size, 4, none⟩ = some (.int .i64 a.f4) := (cell_of hXb 4).trans rfl
   have HB4 := Aside0.mk (below_step HB0.out h04)
   have HC5 := Aside0.mk hC5
   have HM5 := Aside0.mk hM5
   have HTV : Aside0 (entB l1 a = decide ((ofM S T a).1 ≤ a.f4)) := ⟨ent_of_top r.toRt (HOK.out.of HR.out r)⟩
   clear hXb h04 HX0 HB0 B3 GG HG4 hC5 hM5
   refine start_ (n := 13) (S := fun w' => w'.cell? ⟨G, 50, none⟩ = some (.pointer none) ∧ w'.heap[G]? = some (.cells C 105 (0, 0)) ∧ w'.cell? ⟨w.heap.size, 0, none⟩ = some (.int .i64 a.f0) ∧ w'.cell? ⟨w.heap.size, 1, none⟩ = some (.int .i64 a.f1) ∧ w'.cell? ⟨w.heap.size, 2, none⟩ = some (.int .i64 a.f2) ∧ w'.cell? ⟨w.heap.size, 3, none⟩ = some (.int .i64 a.f3) ∧ w'.cell? ⟨w.heap.size, 4, none⟩ = some (.int .i64 a.f4)) (ds := []) #[ff,ff,ff,ff,ff,ff,ff,ff,ff,ff,ff,ff,ff] (by kernel_rfl) rfl rfl ⟨c50, HW4.out, x0, x1, x2, x3, x4⟩ (fun hHeld => ?_)
   refine pure_ (i := 0) (N := some 11) (v := ?_) (a' := ?_) #[tt,ff,ff,ff,ff,ff,ff,ff,ff,ff,ff,ff,ff] rfl rfl (by kernel_rfl) (fun _ _ _ h => h) (Or.inl ⟨by rfl, ?_⟩) ?_ ?_
   rotate_left
   · intro w'
     go_simp
     with_reducible rfl
   rotate_left
   · simp only [Act.put, List.setIfInBounds_toArray, List.set_cons_zero, List.set_cons_succ, i64_w, i32_w]
     rfl
   refine take_ (i := 1) (N := some 12) (v := ?_) (a' := ?_) #[tt,tt,ff,ff,ff,ff,ff,ff,ff,ff,ff,ff,ff] rfl rfl (by kernel_rfl) (fun _ _ _ h => h) (Or.inl ⟨by rfl, ?_⟩) hHeld ?_ ?_
   rotate_left
   · rintro w' ⟨s0, s1, s2, s3, s4, s5, s6⟩
     go_simp
     with_reducible rfl
   rotate_left
   · simp only [Act.put, List.setIfInBounds_toArray, List.set_cons_zero, List.set_cons_succ, i64_w, i32_w]
     rfl
   refine pure_ (i := 2) (N := some 13) (v := ?_) (a' := ?_) #[tt,tt,tt,ff,ff,ff,ff,ff,ff,ff,ff,ff,ff] rfl rfl (by kernel_rfl) (fun _ _ _ h => h) (Or.inl ⟨by rfl, ?_⟩) ?_ ?_
   rotate_left
   · intro w'
     go_simp
     with_reducible rfl
   rotate_left
   · simp only [Act.put, List.setIfInBounds_toArray, List.set_cons_zero, List.set_cons_succ, i64_w, i32_w]
     rfl
   refine pure_ (i := 3) (N := some 14) (v := ?_) (a' := ?_) #[tt,tt,tt,tt,ff,ff,ff,ff,ff,ff,ff,ff,ff] rfl rfl (by kernel_rfl) (fun _ _ _ h => h) (Or.inl ⟨by rfl, ?_⟩) ?_ ?_
   rotate_left
   · intro w'
     go_simp
     with_reducible rfl
   rotate_left
   · simp only [Act.put, List.setIfInBounds_toArray, List.set_cons_zero, List.set_cons_succ, i64_w, i32_w]
     rfl
   refine pure_ (i := 8) (N := some 19) (v := ?_) (a' := ?_) #[tt,tt,tt,tt,ff,ff,ff,ff,tt,ff,ff,ff,ff] rfl rfl (by kernel_rfl) (fun _ _ _ h => h) (Or.inl ⟨by rfl, ?_⟩) ?_ ?_
   rotate_left
   · intro w'
     go_simp
     with_reducible rfl
   rotate_left
   · simp only [Act.put, List.setIfInBounds_toArray, List.set_cons_zero, List.set_cons_succ, i64_w, i32_w]
     rfl
   refine take_ (i := 4) (N := some 15) (v := ?_) (a' := ?_) #[tt,tt,tt,tt,tt,ff,ff,ff,tt,ff,ff,ff,ff] rfl rfl (by kernel_rfl) (fun _ _ _ h => h) (Or.inl ⟨by rfl, ?_⟩) hHeld ?_ ?_
   rotate_left
   · rintro w' ⟨s0, s1, s2, s3, s4, s5, s6⟩
     (refine exec_loadRow (T := 105) (p := 7) (g := G) (C := C) (t := 105) ?_ ?_ s1 Try.underlying105 rfl ?_ <;> first | rfl | (rw [HCL.out.2.1.1]; exact info105))
   rotate_left
   · simp only [Act.put, List.setIfInBounds_toArray, List.set_cons_zero, List.set_cons_succ, i64_w, i32_w]
     rfl
   refine take_ (i := 5) (N := some 16) (v := ?_) (a' := ?_) #[tt,tt,tt,tt,tt,tt,ff,ff,tt,ff,ff,ff,ff] rfl rfl (by kernel_rfl) (fun _ _ _ h => h) (Or.inl ⟨by rfl, ?_⟩) hHeld ?_ ?_
   rotate_left
   · rintro w' ⟨s0, s1, s2, s3, s4, s5, s6⟩
     go_simp
     with_reducible rfl
   rotate_left
   · simp only [Act.put, List.setIfInBounds_toArray, List.set_cons_zero, List.set_cons_succ, i64_w, i32_w]
     rfl
   refine take_ (i := 9) (N := some 20) (v := ?_) (a' := ?_) #[tt,tt,tt,tt,tt,tt,ff,ff,tt,tt,ff,ff,ff] rfl rfl (by kernel_rfl) (fun _ _ _ h => h) (Or.inl ⟨by rfl, ?_⟩) hHeld ?_ ?_
   rotate_left
   · rintro w' ⟨s0, s1, s2, s3, s4, s5, s6⟩
     go_simp
     with_reducible rfl
   rotate_left
   · simp only [Act.put, List.setIfInBounds_toArray, List.set_cons_zero, List.set_cons_succ, i64_w, i32_w]
     rfl
   refine one_ (i := 6) (N := some 17) #[tt,tt,tt,tt,tt,tt,tt,ff,tt,tt,ff,ff,ff] rfl rfl (by kernel_rfl) (by decide) (fun K hK => ?_)
   refine goes_ Try.func58 (by kernel_rfl) rfl #[.agg C, .agg #[.int .i64 a.f0, .int .i64 a.f1, .int .i64 a.f2, .int .i64 a.f3, .int .i64 a.f4]] (by rfl) rfl rfl (by simp only [List.map_toArray, List.map_cons, List.map_nil]; rfl) ?_
   with_reducible refine (of_calls n B C S T none a _ (by omega) r (HC5.out.stays (Stays.drew _)) HM5.out.drew).mono ?_
   rintro e w6 ⟨hb6, p6, rfl, hw6⟩
   refine ⟨_, rfl, ?_⟩
   refine hK.out _ _ ⟨(cell_below hb6 hHeld.1), (blk_below hHeld.2.1 hb6), (cell_below hb6 hHeld.2.2.1), (cell_below hb6 hHeld.2.2.2.1), (cell_below hb6 hHeld.2.2.2.2.1), (cell_below hb6 hHeld.2.2.2.2.2.1), (cell_below hb6 hHeld.2.2.2.2.2.2)⟩ (fun hHeld => ?_)
   clear hK K
   refine norm_ (a' := ?_) ?_ ?_
   rotate_left
   · show Act.put _ (some 17) _ = _
     simp only [Act.put, List.setIfInBounds_toArray, List.set_cons_zero, List.set_cons_succ, i64_w, i32_w]
     rfl
   refine pure_ (i := 7) (N := some 18) (v := ?_) (a' := ?_) #[tt,tt,tt,tt,tt,tt,tt,tt,tt,tt,ff,ff,ff] rfl rfl (by kernel_rfl) (fun _ _ _ h => h) (Or.inl ⟨by rfl, ?_⟩) ?_ ?_
   rotate_left
   · intro w'
     go_simp
     with_reducible rfl
   rotate_left
   · simp only [Act.put, List.setIfInBounds_toArray, List.set_cons_zero, List.set_cons_succ, i64_w, i32_w]
     rfl
   refine pure_ (i := 10) (N := some 21) (v := ?_) (a' := ?_) #[tt,tt,tt,tt,tt,tt,tt,tt,tt,tt,tt,ff,ff] rfl rfl (by kernel_rfl) (fun _ _ _ h => h) (Or.inl ⟨by rfl, ?_⟩) ?_ ?_
   rotate_left
   · intro w'
     go_simp
     with_reducible rfl
   rotate_left
   · simp only [Act.put, List.setIfInBounds_toArray, List.set_cons_zero, List.set_cons_succ, i64_w, i32_w]
     rfl
   refine pure_ (i := 11) (N := some 22) (v := ?_) (a' := ?_) #[tt,tt,tt,tt,tt,tt,tt,tt,tt,tt,tt,tt,ff] rfl rfl (by kernel_rfl) (fun _ _ _ h => h) (Or.inl ⟨by rfl, ?_⟩) ?_ ?_
   rotate_left
   · intro w'
     go_simp
     with_reducible rfl
   rotate_left
   · simp only [Act.put, List.setIfInBounds_toArray, List.set_cons_zero, List.set_cons_succ, i64_w, i32_w]
     rfl
   refine pure_ (i := 12) (N := some 6) (v := ?_) (a' := ?_) #[tt,tt,tt,tt,tt,tt,tt,tt,tt,tt,tt,tt,tt] rfl rfl (by kernel_rfl) (fun _ _ _ h => h) (Or.inl ⟨by rfl, ?_⟩) ?_ ?_
   rotate_left
   · intro w'
     go_simp
     with_reducible rfl
   rotate_left
   · simp only [Act.put, List.setIfInBounds_toArray, List.set_cons_zero, List.set_cons_succ, i64_w, i32_w]
     rfl
   refine done_ (by kernel_rfl) ?_
   go_wp2_with fail
   go_ret
   have e := HBB.out.symm.trans HTV.out
   subst e
   exact ⟨rfl, (below_step HB4.out.drew hb6)⟩
 · have c50 : w4.cell? ⟨G, 50, none⟩ = some (.pointer (some ⟨gq, 0, none⟩)) := (cell_of HW4.out 50).trans H50.out
   obtain ⟨h04, _, hC5, hM5⟩ := stored HCL.out.1 EG.out B3.out HG4.out HCL.out.2.1 HCL.out.2.2
   have HB4 := Aside0.mk (below_step HB0.out h04)
   have hbt := ent_of_unsat (a := a) HSAT.out
   have e := HBB.out.symm.trans hbt
   subst e
   clear h04 HX0 HB0 B3 GG HG4 hC5 hM5 hbt HBB
   refine start_ (n := 13) (S := fun w' => w'.cell? ⟨G, 50, none⟩ = some (.pointer (some ⟨gq, 0, none⟩))) (ds := []) #[ff,ff,ff,ff,ff,ff,ff,ff,ff,ff,ff,ff,ff] (by kernel_rfl) rfl rfl (c50) (fun hHeld => ?_)
   refine pure_ (i := 0) (N := some 11) (v := ?_) (a' := ?_) #[tt,ff,ff,ff,ff,ff,ff,ff,ff,ff,ff,ff,ff] rfl rfl (by kernel_rfl) (fun _ _ _ h => h) (Or.inl ⟨by rfl, ?_⟩) ?_ ?_
   rotate_left
   · intro w'
     go_simp
     with_reducible rfl
   rotate_left
   · simp only [Act.put, List.setIfInBounds_toArray, List.set_cons_zero, List.set_cons_succ, i64_w, i32_w]
     rfl
   refine take_ (i := 1) (N := some 12) (v := ?_) (a' := ?_) #[tt,tt,ff,ff,ff,ff,ff,ff,ff,ff,ff,ff,ff] rfl rfl (by kernel_rfl) (fun _ _ _ h => h) (Or.inl ⟨by rfl, ?_⟩) hHeld ?_ ?_
   rotate_left
   · intro w' s0
     go_simp
     with_reducible rfl
   rotate_left
   · simp only [Act.put, List.setIfInBounds_toArray, List.set_cons_zero, List.set_cons_succ, i64_w, i32_w]
     rfl
   refine pure_ (i := 2) (N := some 13) (v := ?_) (a' := ?_) #[tt,tt,tt,ff,ff,ff,ff,ff,ff,ff,ff,ff,ff] rfl rfl (by kernel_rfl) (fun _ _ _ h => h) (Or.inl ⟨by rfl, ?_⟩) ?_ ?_
   rotate_left
   · intro w'
     go_simp
     with_reducible rfl
   rotate_left
   · simp only [Act.put, List.setIfInBounds_toArray, List.set_cons_zero, List.set_cons_succ, i64_w, i32_w]
     rfl
   refine pure_ (i := 3) (N := some 14) (v := ?_) (a' := ?_) #[tt,tt,tt,tt,ff,ff,ff,ff,ff,ff,ff,ff,ff] rfl rfl (by kernel_rfl) (fun _ _ _ h => h) (Or.inl ⟨by rfl, ?_⟩) ?_ ?_
   rotate_left
   · intro w'
     go_simp
     with_reducible rfl
   rotate_left
   · simp only [Act.put, List.setIfInBounds_toArray, List.set_cons_zero, List.set_cons_succ, i64_w, i32_w]
     rfl
   refine pure_ (i := 4) (N := some 15) (v := undef) (a' := ?_) #[tt,tt,tt,tt,tt,ff,ff,ff,ff,ff,ff,ff,ff] rfl rfl (by kernel_rfl) (fun _ _ _ h => h) (Or.inr ⟨by rfl, rfl⟩) ?_ ?_
   rotate_left
   · simp only [Act.put, List.setIfInBounds_toArray, List.set_cons_zero, List.set_cons_succ, i64_w, i32_w]
     rfl
   refine pure_ (i := 5) (N := some 16) (v := undef) (a' := ?_) #[tt,tt,tt,tt,tt,tt,ff,ff,ff,ff,ff,ff,ff] rfl rfl (by kernel_rfl) (fun _ _ _ h => h) (Or.inr ⟨by rfl, rfl⟩) ?_ ?_
   rotate_left
   · simp only [Act.put, List.setIfInBounds_toArray, List.set_cons_zero, List.set_cons_succ, i64_w, i32_w]
     rfl
   refine pure_ (i := 6) (N := some 17) (v := undef) (a' := ?_) #[tt,tt,tt,tt,tt,tt,tt,ff,ff,ff,ff,ff,ff] rfl rfl (by kernel_rfl) (fun _ _ _ h => h) (Or.inr ⟨by rfl, rfl⟩) ?_ ?_
   rotate_left
   · simp only [Act.put, List.setIfInBounds_toArray, List.set_cons_zero, List.set_cons_succ, i64_w, i32_w]
     rfl
   refine pure_ (i := 7) (N := some 18) (v := undef) (a' := ?_) #[tt,tt,tt,tt,tt,tt,tt,tt,ff,ff,ff,ff,ff] rfl rfl (by kernel_rfl) (fun _ _ _ h => h) (Or.inr ⟨by rfl, rfl⟩) ?_ ?_
   rotate_left
   · simp only [Act.put, List.setIfInBounds_toArray, List.set_cons_zero, List.set_cons_succ, i64_w, i32_w]
     rfl
   refine pure_ (i := 8) (N := some 19) (v := undef) (a' := ?_) #[tt,tt,tt,tt,tt,tt,tt,tt,tt,ff,ff,ff,ff] rfl rfl (by kernel_rfl) (fun _ _ _ h => h) (Or.inr ⟨by rfl, rfl⟩) ?_ ?_
   rotate_left
   · simp only [Act.put, List.setIfInBounds_toArray, List.set_cons_zero, List.set_cons_succ, i64_w, i32_w]
     rfl
   refine pure_ (i := 9) (N := some 20) (v := undef) (a' := ?_) #[tt,tt,tt,tt,tt,tt,tt,tt,tt,tt,ff,ff,ff] rfl rfl (by kernel_rfl) (fun _ _ _ h => h) (Or.inr ⟨by rfl, rfl⟩) ?_ ?_
   rotate_left
   · simp only [Act.put, List.setIfInBounds_toArray, List.set_cons_zero, List.set_cons_succ, i64_w, i32_w]
     rfl
   refine pure_ (i := 10) (N := some 21) (v := undef) (a' := ?_) #[tt,tt,tt,tt,tt,tt,tt,tt,tt,tt,tt,ff,ff] rfl rfl (by kernel_rfl) (fun _ _ _ h => h) (Or.inr ⟨by rfl, rfl⟩) ?_ ?_
   rotate_left
   · simp only [Act.put, List.setIfInBounds_toArray, List.set_cons_zero, List.set_cons_succ, i64_w, i32_w]
     rfl
   refine pure_ (i := 11) (N := some 22) (v := ?_) (a' := ?_) #[tt,tt,tt,tt,tt,tt,tt,tt,tt,tt,tt,tt,ff] rfl rfl (by kernel_rfl) (fun _ _ _ h => h) (Or.inl ⟨by rfl, ?_⟩) ?_ ?_
   rotate_left
   · intro w'
     go_simp
     with_reducible rfl
   rotate_left
   · simp only [Act.put, List.setIfInBounds_toArray, List.set_cons_zero, List.set_cons_succ, i64_w, i32_w]
     rfl
   refine pure_ (i := 12) (N := some 6) (v := ?_) (a' := ?_) #[tt,tt,tt,tt,tt,tt,tt,tt,tt,tt,tt,tt,tt] rfl rfl (by kernel_rfl) (fun _ _ _ h => h) (Or.inl ⟨by rfl, ?_⟩) ?_ ?_
   rotate_left
   · intro w'
     go_simp
     with_reducible rfl
   rotate_left
   · simp only [Act.put, List.setIfInBounds_toArray, List.set_cons_zero, List.set_cons_succ, i64_w, i32_w]
     rfl
   refine done_ (by kernel_rfl) ?_
   go_wp2_with fail
   go_ret
   exact ⟨rfl, HB4.out.drew⟩
end Go.Proofs.Ytmoiickbgokloaa.PA
