/- Contracts by hand: prove.line, prove.index, Entails, spare. -/
import Derived.Test.YtmoiickbgokloaaKHh
namespace Go.Proofs.Ytmoiickbgokloaa.PA
open Go.RowKit Go.Proofs.YtmoiickbgokloaaW.PrintWords Go.Proofs.YtmoiickbgokloaaW.PrintLast Go.Proofs.YtmoiickbgokloaaW.PrintMore Go.Proofs.Ytmoiickbgokloaa.Utv
set_option linter.unusedVariables false
set_option linter.unusedSimpArgs false
def lineE (n : Int) (l : List S24) (a : S24) : Int := if checkE n l = 0 then (if rightB n a = true then 0 else 1) else checkE n l
def indexE (n : Int) (l : List S24) (k : Int) : Int := if checkE n l = 0 then (if 0 ≤ k ∧ k ≤ n - 1 then 0 else 1) else checkE n l
set_option maxRecDepth 100000 in
set_option maxHeartbeats 1000000 in
theorem line_calls (n : Int) (A : Option Addr) (c : Nat) (l : List S24) (a : S24) (w : World) (hr : Kd.C k24 w A l.length l) (hc : l.length ≤ c) :
 Calls Try.prog 56 #[.int .i64 n, .slice A l.length c, .agg #[.int .i64 a.f0, .int .i64 a.f1, .int .i64 a.f2, .int .i64 a.f3, .int .i64 a.f4]] w fun e w' => e = .returned (.int .i64 (lineE n l a)) ∧ Below w.heap.size w w' := by
 have hu24 := Try.underlying24
 have hb0 := (Below.refl _ w).alloc (Nat.le_refl _) (.cells #[.int .i64 a.f0, .int .i64 a.f1, .int .i64 a.f2, .int .i64 a.f3, .int .i64 a.f4] 24)
 have HL := Aside0.mk (Kd.C_below hr hb0)
 have HB0 := Aside0.mk hb0
 have HX0 := Aside0.mk (heap1_0 w (.cells #[.int .i64 a.f0, .int .i64 a.f1, .int .i64 a.f2, .int .i64 a.f3, .int .i64 a.f4] 24))
 clear hr hb0
 by_cases hk : checkE n l = 0
 · obtain ⟨h1, h2, h3, h4⟩ := check_ok hk
   have hcv : lineE n l a = if rightB n a = true then 0 else 1 := by unfold lineE; rw [if_pos hk]
   have HCH : ∀ W, Kd.C k24 W A l.length l → Calls Try.prog 31 #[.int .i64 n, .slice A l.length c] W fun e w' => e = .returned (.int .i64 0) ∧ Below W.heap.size W w' := fun W h => by rw [← hk]; exact check_calls _ A c l W h hc
   have HCC := Aside0.mk HCH
   clear HCH
   cases hq : rightB n a
   · have HQ := Aside0.mk hq
     have HV := Aside0.mk (hcv.trans (by rw [hq]; rfl) : lineE n l a = 1)
     clear hq hcv hk h4 
     rw [HV.out]
     go_enter Try.func56, Try.ntmps56
     go_upto_region 1 with (fail)
     generalize (w.alloc (.cells #[.int .i64 a.f0, .int .i64 a.f1, .int .i64 a.f2, .int .i64 a.f3, .int .i64 a.f4] 24)) = w0 at *
     go_wp2_with (first | (go_at_call 31; refine (HCC.out _ HL.out).mono ?_; rintro e w1 ⟨rfl, hb1⟩; have HB1 := Aside0.mk (below_step HB0.out hb1); have hX1 := blk_below HX0.out hb1; have x0 : w1.cell? ⟨w.heap.size, 0, none⟩ = some (.int .i64 a.f0) := (cell_of hX1 0).trans rfl; have x1 : w1.cell? ⟨w.heap.size, 1, none⟩ = some (.int .i64 a.f1) := (cell_of hX1 1).trans rfl; have x2 : w1.cell? ⟨w.heap.size, 2, none⟩ = some (.int .i64 a.f2) := (cell_of hX1 2).trans rfl; have x3 : w1.cell? ⟨w.heap.size, 3, none⟩ = some (.int .i64 a.f3) := (cell_of hX1 3).trans rfl; have x4 : w1.cell? ⟨w.heap.size, 4, none⟩ = some (.int .i64 a.f4) := (cell_of hX1 4).trans rfl; clear hb1 hX1 HX0 HB0) | (go_at_call 75; refine (right_calls n a _ h1 h2).mono ?_; rw [HQ.out]; rintro e w2 ⟨rfl, hb2⟩; have HB2 := Aside0.mk (below_step HB1.out hb2); clear hb2))
     go_ret
     exact ⟨rfl, HB2.out⟩
   · have HQ := Aside0.mk hq
     have HV := Aside0.mk (hcv.trans (by rw [hq]; rfl) : lineE n l a = 0)
     clear hq hcv hk h4 
     rw [HV.out]
     go_enter Try.func56, Try.ntmps56
     go_upto_region 1 with (fail)
     generalize (w.alloc (.cells #[.int .i64 a.f0, .int .i64 a.f1, .int .i64 a.f2, .int .i64 a.f3, .int .i64 a.f4] 24)) = w0 at *
     go_wp2_with (first | (go_at_call 31; refine (HCC.out _ HL.out).mono ?_; rintro e w1 ⟨rfl, hb1⟩; have HB1 := Aside0.mk (below_step HB0.out hb1); have hX1 := blk_below HX0.out hb1; have x0 : w1.cell? ⟨w.heap.size, 0, none⟩ = some (.int .i64 a.f0) := (cell_of hX1 0).trans rfl; have x1 : w1.cell? ⟨w.heap.size, 1, none⟩ = some (.int .i64 a.f1) := (cell_of hX1 1).trans rfl; have x2 : w1.cell? ⟨w.heap.size, 2, none⟩ = some (.int .i64 a.f2) := (cell_of hX1 2).trans rfl; have x3 : w1.cell? ⟨w.heap.size, 3, none⟩ = some (.int .i64 a.f3) := (cell_of hX1 3).trans rfl; have x4 : w1.cell? ⟨w.heap.size, 4, none⟩ = some (.int .i64 a.f4) := (cell_of hX1 4).trans rfl; clear hb1 hX1 HX0 HB0) | (go_at_call 75; refine (right_calls n a _ h1 h2).mono ?_; rw [HQ.out]; rintro e w2 ⟨rfl, hb2⟩; have HB2 := Aside0.mk (below_step HB1.out hb2); clear hb2))
     go_ret
     exact ⟨rfl, HB2.out⟩
 · have hv : lineE n l a = checkE n l := by unfold lineE; rw [if_neg hk]
   rw [hv]
   have hcb : (checkE n l != 0) = true := by rw [bne_iff_ne]; exact hk
   clear hk hv
   go_enter Try.func56, Try.ntmps56
   go_upto_region 1 with (fail)
   generalize (w.alloc (.cells #[.int .i64 a.f0, .int .i64 a.f1, .int .i64 a.f2, .int .i64 a.f3, .int .i64 a.f4] 24)) = w0 at *
   go_wp2_with (go_at_call 31; refine (check_calls n A c l _ HL.out hc).mono ?_; rintro e w1 ⟨rfl, hb1⟩; have HB1 := Aside0.mk (below_step HB0.out hb1); clear hb1)
   go_ret
   exact ⟨rfl, HB1.out⟩
theorem within_same (a0 a1 a2 : Int) (w : World) :
 Calls Try.prog 71 #[.int .i64 a0, .int .i64 a1, .int .i64 a2] w fun e w' => e = .returned (.bool (decide (a1 ≤ a0) && decide (a0 ≤ a2))) ∧ Drawn0 w w' := by
 refine prove_within.calls a0 a1 a2 _ w ?_
 unfold prove_within.f
 by_cases h : a1 ≤ a0
 · rw [if_pos h]; simp [h]
 · rw [if_neg h]; simp [h]
set_option maxRecDepth 100000 in
set_option maxHeartbeats 1000000 in
theorem pindex_calls (n : Int) (A : Option Addr) (c : Nat) (l : List S24) (k : Int) (w : World) (hr : Kd.C k24 w A l.length l) (hc : l.length ≤ c) :
 Calls Try.prog 62 #[.int .i64 n, .slice A l.length c, .int .i64 k] w fun e w' => e = .returned (.int .i64 (indexE n l k)) ∧ Below w.heap.size w w' := by
 have HL := Aside0.mk hr
 clear hr
 by_cases hk : checkE n l = 0
 · obtain ⟨h1, h2, h3, h4⟩ := check_ok hk
   have hcv : indexE n l k = if 0 ≤ k ∧ k ≤ n - 1 then 0 else 1 := by unfold indexE; rw [if_pos hk]
   have HCH : ∀ W, Kd.C k24 W A l.length l → Calls Try.prog 31 #[.int .i64 n, .slice A l.length c] W fun e w' => e = .returned (.int .i64 0) ∧ Below W.heap.size W w' := fun W h => by rw [← hk]; exact check_calls _ A c l W h hc
   have HCC := Aside0.mk HCH
   have hw : wrap64 (n - 1) = n - 1 := by unfold wrap64; omega
   clear HCH
   cases hq : (decide (0 ≤ k) && decide (k ≤ n - 1))
   · have HQ := Aside0.mk hq
     have HV := Aside0.mk (hcv.trans (by rw [if_neg]; intro h; simp [h] at hq) : indexE n l k = 1)
     clear hq hcv hk h4 
     rw [HV.out]
     go_enter Try.func62, Try.ntmps62
     go_wp2_with (first | (go_at_call 31; refine (HCC.out _ HL.out).mono ?_; rintro e w1 ⟨rfl, hb1⟩; have HB1 := Aside0.mk hb1; clear hb1) | (go_at_call 71; refine (within_same _ _ _ _).mono ?_; rw [HQ.out]; rintro e w2 ⟨rfl, hb2⟩; have HB2 := Aside0.mk (below_step HB1.out hb2.below); clear hb2))
     go_ret
     exact ⟨rfl, HB2.out⟩
   · have HQ := Aside0.mk hq
     have HV := Aside0.mk (hcv.trans (by rw [if_pos]; simpa using hq) : indexE n l k = 0)
     clear hq hcv hk h4 
     rw [HV.out]
     go_enter Try.func62, Try.ntmps62
     go_wp2_with (first | (go_at_call 31; refine (HCC.out _ HL.out).mono ?_; rintro e w1 ⟨rfl, hb1⟩; have HB1 := Aside0.mk hb1; clear hb1) | (go_at_call 71; refine (within_same _ _ _ _).mono ?_; rw [HQ.out]; rintro e w2 ⟨rfl, hb2⟩; have HB2 := Aside0.mk (below_step HB1.out hb2.below); clear hb2))
     go_ret
     exact ⟨rfl, HB2.out⟩
 · have hv : indexE n l k = checkE n l := by unfold indexE; rw [if_neg hk]
   rw [hv]
   have hcb : (checkE n l != 0) = true := by rw [bne_iff_ne]; exact hk
   clear hk hv
   go_enter Try.func62, Try.ntmps62
   go_wp2_with (go_at_call 31; refine (check_calls n A c l _ HL.out hc).mono ?_; rintro e w1 ⟨rfl, hb1⟩; have HB1 := Aside0.mk hb1; clear hb1)
   go_ret
   exact ⟨rfl, HB1.out⟩
/-- prove.entails, where the lines and the further one are right. -/
theorem entails_calls (n : Int) (A : Option Addr) (c : Nat) (l : List S24) (a : S24) (w : World) (hr : Kd.C k24 w A l.length l) (hc : l.length ≤ c) (hk : checkE n l = 0) (ha : rightB n a = true) :
 Calls Try.prog 65 #[.int .i64 n, .slice A l.length c, .agg #[.int .i64 a.f0, .int .i64 a.f1, .int .i64 a.f2, .int .i64 a.f3, .int .i64 a.f4]] w fun e w' => e = .returned (.bool (entB l a)) ∧ Below w.heap.size w w' := by
 obtain ⟨h1, h2, h3, h4⟩ := check_ok hk
 obtain ⟨m, rfl⟩ : ∃ m : Nat, n = m := ⟨n.toNat, by omega⟩
 exact entails_ok m A c l a w hr hc hk ha _ rfl
noncomputable def prove_Entails.g (n : Int) (l : List S24) (a : S24) : Bool × Int := if lineE n l a = 0 then (entB l a, 0) else (false, lineE n l a)
set_option maxRecDepth 100000 in
set_option maxHeartbeats 1000000 in
theorem Entails_calls (n : Int) (A : Option Addr) (c : Nat) (l : List S24) (a : S24) (w : World) (hr : Kd.C k24 w A l.length l) (hc : l.length ≤ c) :
 Calls Try.prog 25 #[.int .i64 n, .slice A l.length c, .agg #[.int .i64 a.f0, .int .i64 a.f1, .int .i64 a.f2, .int .i64 a.f3, .int .i64 a.f4]] w fun e w' => e = .returned (.tuple #[.bool (prove_Entails.g n l a).1, .int .i64 (prove_Entails.g n l a).2]) ∧ Below w.heap.size w w' := by
 have hu24 := Try.underlying24
 have hb0 := (Below.refl _ w).alloc (Nat.le_refl _) (.cells #[.int .i64 a.f0, .int .i64 a.f1, .int .i64 a.f2, .int .i64 a.f3, .int .i64 a.f4] 24)
 have HL := Aside0.mk (Kd.C_below hr hb0)
 have HB0 := Aside0.mk hb0
 have HX0 := heap1_0 w (.cells #[.int .i64 a.f0, .int .i64 a.f1, .int .i64 a.f2, .int .i64 a.f3, .int .i64 a.f4] 24)
 have HX := Aside0.mk HX0
 clear hr hb0
 by_cases hk : lineE n l a = 0
 · have hv : prove_Entails.g n l a = (entB l a, 0) := by unfold prove_Entails.g; rw [if_pos hk]
   rw [hv]
   have hk0 : checkE n l = 0 ∧ rightB n a = true := by
    unfold lineE at hk
    by_cases h : checkE n l = 0
    · rw [if_pos h] at hk
      refine ⟨h, ?_⟩
      cases e : rightB n a
      · rw [e] at hk; simp at hk
      · rfl
    · rw [if_neg h] at hk; exact (h hk).elim
   have HK := Aside0.mk hk0
   have HCH : ∀ W, Kd.C k24 W A l.length l → Calls Try.prog 56 #[.int .i64 n, .slice A l.length c, .agg #[.int .i64 a.f0, .int .i64 a.f1, .int .i64 a.f2, .int .i64 a.f3, .int .i64 a.f4]] W fun e w' => e = .returned (.int .i64 0) ∧ Below W.heap.size W w' := fun W h => by rw [← hk]; exact line_calls _ A c l a W h hc
   have HCC := Aside0.mk HCH
   clear HCH hk hk0 hv
   go_enter Try.func25, Try.ntmps25
   go_upto_region 1 with (fail)
   generalize (w.alloc (.cells #[.int .i64 a.f0, .int .i64 a.f1, .int .i64 a.f2, .int .i64 a.f3, .int .i64 a.f4] 24)) = w0 at *
   have x0 : w0.cell? ⟨w.heap.size, 0, none⟩ = some (.int .i64 a.f0) := (cell_of HX0 0).trans rfl
   have x1 : w0.cell? ⟨w.heap.size, 1, none⟩ = some (.int .i64 a.f1) := (cell_of HX0 1).trans rfl
   have x2 : w0.cell? ⟨w.heap.size, 2, none⟩ = some (.int .i64 a.f2) := (cell_of HX0 2).trans rfl
   have x3 : w0.cell? ⟨w.heap.size, 3, none⟩ = some (.int .i64 a.f3) := (cell_of HX0 3).trans rfl
   have x4 : w0.cell? ⟨w.heap.size, 4, none⟩ = some (.int .i64 a.f4) := (cell_of HX0 4).trans rfl
   clear HX0
   go_wp2_with (first | (go_at_call 56; refine (HCC.out _ HL.out).mono ?_; rintro e w1 ⟨rfl, hb1⟩; have HB1 := Aside0.mk (below_step HB0.out hb1); have HL1 := Aside0.mk (Kd.C_below HL.out hb1); have hX1 := blk_below HX.out hb1; have y0 : w1.cell? ⟨w.heap.size, 0, none⟩ = some (.int .i64 a.f0) := (cell_of hX1 0).trans rfl; have y1 : w1.cell? ⟨w.heap.size, 1, none⟩ = some (.int .i64 a.f1) := (cell_of hX1 1).trans rfl; have y2 : w1.cell? ⟨w.heap.size, 2, none⟩ = some (.int .i64 a.f2) := (cell_of hX1 2).trans rfl; have y3 : w1.cell? ⟨w.heap.size, 3, none⟩ = some (.int .i64 a.f3) := (cell_of hX1 3).trans rfl; have y4 : w1.cell? ⟨w.heap.size, 4, none⟩ = some (.int .i64 a.f4) := (cell_of hX1 4).trans rfl; clear hb1 hX1 HX HB0) | (go_at_call 65; refine (entails_calls n A c l a _ HL1.out hc HK.out.1 HK.out.2).mono ?_; rintro e w2 ⟨rfl, hb2⟩; have HB2 := Aside0.mk (below_step HB1.out hb2); clear hb2))
   go_ret2
   exact ⟨rfl, HB2.out⟩
 · have hv : prove_Entails.g n l a = (false, lineE n l a) := by unfold prove_Entails.g; rw [if_neg hk]
   rw [hv]
   have hcb : (lineE n l a != 0) = true := by rw [bne_iff_ne]; exact hk
   clear hk hv
   go_enter Try.func25, Try.ntmps25
   go_upto_region 1 with (fail)
   generalize (w.alloc (.cells #[.int .i64 a.f0, .int .i64 a.f1, .int .i64 a.f2, .int .i64 a.f3, .int .i64 a.f4] 24)) = w0 at *
   have x0 : w0.cell? ⟨w.heap.size, 0, none⟩ = some (.int .i64 a.f0) := (cell_of HX0 0).trans rfl
   have x1 : w0.cell? ⟨w.heap.size, 1, none⟩ = some (.int .i64 a.f1) := (cell_of HX0 1).trans rfl
   have x2 : w0.cell? ⟨w.heap.size, 2, none⟩ = some (.int .i64 a.f2) := (cell_of HX0 2).trans rfl
   have x3 : w0.cell? ⟨w.heap.size, 3, none⟩ = some (.int .i64 a.f3) := (cell_of HX0 3).trans rfl
   have x4 : w0.cell? ⟨w.heap.size, 4, none⟩ = some (.int .i64 a.f4) := (cell_of HX0 4).trans rfl
   clear HX0
   go_wp2_with (go_at_call 56; refine (line_calls n A c l a _ HL.out hc).mono ?_; rintro e w1 ⟨rfl, hb1⟩; have HB1 := Aside0.mk (below_step HB0.out hb1); clear hb1)
   go_ret2
   exact ⟨rfl, HB1.out⟩
end Go.Proofs.Ytmoiickbgokloaa.PA
