/- Contracts by hand: deriv.steps, prove.Refute, prove.Prove. -/
import Derived.Laws.EntriesVeiled
import Derived.Test.YtmoiickbgokloaaKMq
import Derived.Test.YtmoiickbgokloaaKHo
namespace Go.Proofs.Ytmoiickbgokloaa.PA
open Go.RowKit Go.Proofs.YtmoiickbgokloaaW.PrintWords Go.Proofs.YtmoiickbgokloaaW.PrintLast Go.Proofs.YtmoiickbgokloaaW.PrintMore Go.Proofs.Ytmoiickbgokloaa.Utv
set_option linter.unusedVariables false
set_option linter.unusedSimpArgs false
/-- Steps that end with what a derivation says. -/
def StepsOf (t : Tree) (out : List S166) : Prop := ∃ ts, PfOk ts out ∧ ts.length ≤ tsz t ∧ (∀ u, u ∈ ts → Sub u t) ∧ ∃ q, q + 1 = ts.length ∧ ts[q]? = some t
theorem heap4_3 (w : World) (a b c d : Obj) : ((((w.alloc a).alloc b).alloc c).alloc d).heap[w.heap.size + 1 + 1 + 1]? = some d := by
 have := blk_new (((w.alloc a).alloc b).alloc c) d
 simpa using this
theorem makeMap159 (W : World) : (Instr.makeMap 159 none).run Try.prog W = .ok (.map (some W.heap.size)) (W.alloc (.map #[] 0)) := rfl
set_option maxRecDepth 100000 in
set_option maxHeartbeats 2000000 in
theorem steps_calls (t : Tree) (g : Nat) (w : World) (hd : Drv w t g) (hs : tsz t ≤ 1000) :
 Calls Try.prog 78 #[.pointer (some ⟨g, 0, none⟩)] w fun e w' => ∃ v out, e = .returned v ∧ Kd.R k166 166 w' w.heap.size (fun _ => True) v out ∧ Below w.heap.size w w' ∧ StepsOf t out := by
 have hu159 := Try.underlying159
 have hu160 := Try.underlying160
 have HD := Aside0.mk hd
 have hmk := makeMap159
 clear hd
 go_enter Try.func78, Try.ntmps78
 go_upto_region 5 with (fail)
 have hB : Below w.heap.size w ((((w.alloc (.cells #[.slice none 0 0] 63)).alloc (.map #[] 0)).alloc (.cells #[.map (some (w.heap.size + 1))] 159)).alloc (.cells #[.func (.func 110) #[] #[.pointer (some ⟨w.heap.size + 1 + 1, 0, none⟩), .pointer (some ⟨w.heap.size + 1 + 1 + 1, 0, none⟩), .pointer (some ⟨w.heap.size, 0, none⟩)]] 160)) :=
  (((((Below.refl _ w).alloc (Nat.le_refl _) _).alloc (by simp) _).alloc (by simp; omega) _).alloc (by simp; omega) _)
 have hst : AddSt w ((((w.alloc (.cells #[.slice none 0 0] 63)).alloc (.map #[] 0)).alloc (.cells #[.map (some (w.heap.size + 1))] 159)).alloc (.cells #[.func (.func 110) #[] #[.pointer (some ⟨w.heap.size + 1 + 1, 0, none⟩), .pointer (some ⟨w.heap.size + 1 + 1 + 1, 0, none⟩), .pointer (some ⟨w.heap.size, 0, none⟩)]] 160))
  (w.heap.size + 1 + 1) (w.heap.size + 1 + 1 + 1) w.heap.size (w.heap.size + 1) [] [] [] (.slice none 0 0) :=
  ⟨blk_alloc (heap3_2 _ _ _ _) _, heap4_3 _ _ _ _ _, blk_alloc (heap3_0 _ _ _ _) _, blk_alloc (heap3_1 _ _ _ _) _, Kd.R_nil _ _ _ _ _, hB, rfl, fun k g t h => by simp at h, ⟨rfl, fun k t s h => by simp at h⟩, by omega, by omega, by omega, by omega⟩
 have HST := Aside0.mk hst
 have HD4 := Aside0.mk (HD.out.stays (Stays.below hB rfl))
 have c2 : ((((w.alloc (.cells #[.slice none 0 0] 63)).alloc (.map #[] 0)).alloc (.cells #[.map (some (w.heap.size + 1))] 159)).alloc (.cells #[.func (.func 110) #[] #[.pointer (some ⟨w.heap.size + 1 + 1, 0, none⟩), .pointer (some ⟨w.heap.size + 1 + 1 + 1, 0, none⟩), .pointer (some ⟨w.heap.size, 0, none⟩)]] 160)).cell? ⟨w.heap.size + 1 + 1 + 1, 0, none⟩ = some (.func (.func 110) #[] #[.pointer (some ⟨w.heap.size + 1 + 1, 0, none⟩), .pointer (some ⟨w.heap.size + 1 + 1 + 1, 0, none⟩), .pointer (some ⟨w.heap.size, 0, none⟩)]) := (cell_of hst.m2 0).trans rfl
 clear hst hB hmk
 generalize ((((w.alloc (.cells #[.slice none 0 0] 63)).alloc (.map #[] 0)).alloc (.cells #[.map (some (w.heap.size + 1))] 159)).alloc (.cells #[.func (.func 110) #[] #[.pointer (some ⟨w.heap.size + 1 + 1, 0, none⟩), .pointer (some ⟨w.heap.size + 1 + 1 + 1, 0, none⟩), .pointer (some ⟨w.heap.size, 0, none⟩)]] 160)) = W4 at *
 go_wp2_with (go_at_call 110; refine (add_calls w _ _ _ _ t _ g [] [] [] (.slice none 0 0) HST.out HD4.out (by simpa using hs)).mono ?_; rintro e W5 ⟨x, y, out1, v1, q, rfl, HST5, HQ, HFR, HOW⟩; have c3 : W5.cell? ⟨w.heap.size, 0, none⟩ = some v1 := (cell_of HST5.out.m3 0).trans rfl)
 go_ret
 have h5 := HST5.out
 obtain ⟨q1, q2, q3, q4, q5⟩ := HQ.out
 simp only [List.nil_append] at h5 q1 q2 q5
 exact ⟨v1, out1, rfl, h5.ro, h5.bl, y, h5.pf, q4, q3, q, by rw [q5 (by simp), h5.kt], q2⟩
end Go.Proofs.Ytmoiickbgokloaa.PA
namespace Go.Proofs.Ytmoiickbgokloaa.PA
open Go.RowKit Go.Proofs.YtmoiickbgokloaaW.PrintWords Go.Proofs.YtmoiickbgokloaaW.PrintLast Go.Proofs.YtmoiickbgokloaaW.PrintMore Go.Proofs.Ytmoiickbgokloaa.Utv
set_option linter.unusedVariables false
set_option linter.unusedSimpArgs false
theorem Tr.size {l : List S24} {t : Tree} {vs : List Nat} {i j : Nat} {d : Int} (h : Tr l t vs i j d) : tsz t ≤ 4 * vs.length + 3 := by
 induction h with
 | one _ _ => show 1 + 1 + 1 ≤ _; simp
 | two _ _ => show 1 ≤ _; simp
 | opp _ _ => show 1 ≤ _; simp
 | @add t u us vs i m j a b _ _ ih1 ih2 =>
  have : tsz (.sum t u) = 1 + tsz t + tsz u := rfl
  simp only [List.length_append, List.length_cons]
  omega
theorem RefT.size {l : List S24} {t : Tree} (h : RefT l t) : tsz t ≤ 201 := by
 rcases h with ⟨vs, v, d, h, _, hl⟩ | ⟨t1, t2, v1, v2, i, d1, d2, rfl, h1, h2, _, l1, l2⟩
 · have := Tr.size h; omega
 · have e1 := Tr.size h1
   have e2 := Tr.size h2
   have : tsz (.sum (.half t1) (.half t2)) = 1 + (1 + tsz t1) + (1 + tsz t2) := rfl
   omega
set_option maxRecDepth 100000 in
set_option maxHeartbeats 1000000 in
theorem refute_no (n : Nat) (A : Option Addr) (c : Nat) (l : List S24) (w : World) (hr : Kd.C k24 w A l.length l) (hc : l.length ≤ c) (hk : checkE n l = 0) (hs : satB l = false) :
 Calls Try.prog 38 #[.int .i64 (n : Nat), .slice A l.length c] w fun e w' => ∃ v out, e = .returned (.tuple #[v, .bool true, .int .i64 0]) ∧ Kd.R k166 166 w' w.heap.size (fun _ => True) v out ∧ Below w.heap.size w w' ∧ ∃ t, RefT l t ∧ StepsOf t out := by
 have hu105 := Try.underlying105
 obtain ⟨h1, h2, h3, h4⟩ := check_ok hk
 have HR := Aside0.mk h4
 have HS := Aside0.mk hs
 have HL := Aside0.mk hr
 have HCH : ∀ W, Kd.C k24 W A l.length l → Calls Try.prog 31 #[.int .i64 n, .slice A l.length c] W fun e w' => e = .returned (.int .i64 0) ∧ Below W.heap.size W w' := fun W h => by rw [← hk]; exact check_calls _ A c l W h hc
 have HCC := Aside0.mk HCH
 clear HCH hr h4 hs
 go_enter Try.func38, Try.ntmps38
 go_upto_region 5 with (first | (go_at_call 31; refine (HCC.out _ HL.out).mono ?_; rintro e w1 ⟨rfl, hb1⟩; have HB1 := Aside0.mk hb1; have HL1 := Aside0.mk (Kd.C_below HL.out hb1); clear hb1) | (go_at_call 57; refine (shut_told n A c l _ (by omega) HR.out HL1.out hc h3).mono ?_; rintro e w2 ⟨C, B, S, T, no, rfl, HCL, H50, (⟨rfl, HOK, hsat⟩ | ⟨⟨gq, rfl, HT⟩, hsat⟩)⟩ <;> first | (exact (Bool.noConfusion (HS.out.symm.trans hsat))) | (have HSAT := Aside0.mk hsat; clear hsat)) | ((with_reducible refine gate_dst (N := 8) rfl ?_); refine alloc_event rfl rfl rfl (alloc105 _) ?_; intro G hg4 w3 hw1 hb1; have EG := Aside0.mk hg4; clear hg4; have GG := Aside0.mk hw1; have B3 := Aside0.mk hb1; clear hw1 hb1; simp only [Act.put, List.setIfInBounds_toArray, List.set_cons_zero, List.set_cons_succ]) | ((with_reducible refine gate_store (t := 105) (p := 8) rfl ?_); refine storeRow_event (T := 105) (p := 8) (y := .tmp 17) (t := 105) (old := z105 (.int .i64 0) (.pointer none)) (C := C) (g := G) rfl rfl rfl rfl rfl GG.out ?a7 ?a8 ?a9 ?_; (case a7 => rw [HCL.out.2.1.1]; exact info105); (case a8 => rw [size_z105, HCL.out.2.1.1]); (case a9 => exact HCL.out.2.1.2.1); intro w4 hw9 hb9 hsz9; have HW4 := Aside0.mk hw9; have HG4 := Aside0.mk hb9; clear hw9 hb9 hsz9))
 obtain ⟨h14, h24, hC5, hM5⟩ : Below w1.heap.size w1 w4 ∧ _ := stored HCL.out.1 EG.out B3.out HG4.out HCL.out.2.1 HCL.out.2.2
 have HB4 := Aside0.mk (below_step HB1.out h14)
 have c50 : w4.cell? ⟨G, 50, none⟩ = some (.pointer (some ⟨gq, 0, none⟩)) := (cell_of HW4.out 50).trans H50.out
 obtain ⟨t, hd, hT⟩ := HT.out
 have HD4 := Aside0.mk (hd.stays (Stays.below h24 rfl))
 have HRT := Aside0.mk hT
 clear h14 h24 B3 GG HG4 hC5 hM5 hd hT HT
 go_wp2_with (go_at_call 78; refine (steps_calls t gq _ HD4.out (by have := HRT.out.size; omega)).mono ?_; rintro e w5 ⟨v5, out, rfl, HV, HB5, HST⟩; have HV5 := Aside0.mk HV; have HB6 := Aside0.mk HB5; have HST5 := Aside0.mk HST; clear HV HB5 HST)
 go_ret3
 exact ⟨_, out, rfl, Kd.R_lower HV5.out (below_size HB4.out), below_step HB4.out HB6.out, t, HRT.out, HST5.out⟩
end Go.Proofs.Ytmoiickbgokloaa.PA
