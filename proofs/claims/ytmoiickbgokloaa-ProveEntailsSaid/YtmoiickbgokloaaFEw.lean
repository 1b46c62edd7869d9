/- The law ProveEntails: its walk. -/
import Derived.Test.YtmoiickbgokloaaFEe
namespace Go.Proofs.Ytmoiickbgokloaa.PA
open Go.RowKit Go.Proofs.YtmoiickbgokloaaW.PrintWords Go.Proofs.YtmoiickbgokloaaW.PrintLast Go.Proofs.YtmoiickbgokloaaW.PrintMore Go.Proofs.Ytmoiickbgokloaa.Utv
set_option linter.unusedVariables false
set_option linter.unusedSimpArgs false
theorem Prove_no (n : Int) (A : Option Addr) (c : Nat) (l : List S24) (a : S24) (w : World) (hr : Kd.C k24 w A l.length l) (hc : l.length ≤ c) (hg : (prove_Entails.g n l a).1 = false) :
 Calls Try.prog 34 #[.int .i64 n, .slice A l.length c, .agg #[.int .i64 a.f0, .int .i64 a.f1, .int .i64 a.f2, .int .i64 a.f3, .int .i64 a.f4]] w fun e w' => e = .returned (.tuple #[.slice none 0 0, .bool false, .int .i64 (prove_Entails.g n l a).2]) ∧ Below w.heap.size w w' := by
 unfold prove_Entails.g at hg ⊢
 by_cases hl : lineE n l a = 0
 · rw [if_pos hl] at hg ⊢
   obtain ⟨hk, ha⟩ := line_parts hl
   obtain ⟨h1, h2, _, h4⟩ := check_ok hk
   obtain ⟨n, rfl⟩ : ∃ m : Nat, n = m := ⟨n.toNat, by omega⟩
   have r := rt_of_right ha
   cases hs : satB l
   · rw [ent_of_unsat hs] at hg; cases hg
   · obtain ⟨v, hv⟩ := top_exists h4 (by omega) hs r.toRt
     have hv' := topV_eq hv
     rw [ent_of_top r.toRt hv] at hg
     exact prove_none n A c l a w hr hc ⟨hk, ha⟩ hs v hv' hg
 · rw [if_neg hl] at hg ⊢
   exact prove_err n A c l a w hr hc hl
theorem Prove_yes (n : Int) (A : Option Addr) (c : Nat) (l : List S24) (a : S24) (w : World) (hr : Kd.C k24 w A l.length l) (hc : l.length ≤ c) (hg : (prove_Entails.g n l a).1 = true) :
 Calls Try.prog 34 #[.int .i64 n, .slice A l.length c, .agg #[.int .i64 a.f0, .int .i64 a.f1, .int .i64 a.f2, .int .i64 a.f3, .int .i64 a.f4]] w fun e w' => ∃ A' c' out, e = .returned (.tuple #[.slice A' out.length c', .bool true, .int .i64 (prove_Entails.g n l a).2]) ∧ out.length ≤ c' ∧ Aside0 (Kd.C k166 w' A' out.length out) ∧ Below w.heap.size w w' ∧ Aside0 (lineE n l a = 0 ∧ ∃ t, StepsOf t out ∧ Good l t ∧ tsz t ≤ 400 ∧ (RefT l t ∨ LineT l a t)) := by
 have hg' := hg
 unfold prove_Entails.g at hg
 have hl : lineE n l a = 0 := by
  by_cases h : lineE n l a = 0
  · exact h
  · rw [if_neg h] at hg; cases hg
 have he : (prove_Entails.g n l a).2 = 0 := by unfold prove_Entails.g; rw [if_pos hl]
 rw [if_pos hl] at hg
 rw [he]
 obtain ⟨hk, ha⟩ := line_parts hl
 obtain ⟨h1, h2, _, h4⟩ := check_ok hk
 obtain ⟨n, rfl⟩ : ∃ m : Nat, n = m := ⟨n.toNat, by omega⟩
 have r := rt_of_right ha
 cases hs : satB l
 · refine (prove_ref n A c l a w hr hc ⟨hk, ha⟩ hs).mono ?_
   rintro e w' ⟨v, out, rfl, hR, hb, t, hT, hSt⟩
   obtain ⟨A', c', rfl, hc', hC⟩ := Kd.R_reads hR
   exact ⟨A', c', out, rfl, hc', ⟨hC⟩, hb, ⟨hl, t, hSt, (hT.says h4.w).1, by have := hT.size; omega, .inl hT⟩⟩
 · obtain ⟨v, hv⟩ := top_exists h4 (by omega) hs r.toRt
   have hv' := topV_eq hv
   have hg2 : entB l a = true := hg
   rw [ent_of_top r.toRt hv] at hg2
   refine (prove_line n A c l a w hr hc ⟨hk, ha⟩ hs v hv' hg2).mono ?_
   rintro e w' ⟨v, out, rfl, hR, hb, t, hT, hSt⟩
   obtain ⟨A', c', rfl, hc', hC⟩ := Kd.R_reads hR
   exact ⟨A', c', out, rfl, hc', ⟨hC⟩, hb, ⟨hl, t, hSt, hT.1, hT.2.1, .inr hT⟩⟩
set_option maxRecDepth 100000 in
set_option maxHeartbeats 4000000 in
theorem entails_walk (n : Int) (A : Option Addr) (c : Nat) (l : List S24) (a : S24) (w : World) (hr : Kd.C k24 w A l.length l) (hc : l.length ≤ c) :
 Calls Try.prog 8 #[.int .i64 n, .slice A l.length c, .agg #[.int .i64 a.f0, .int .i64 a.f1, .int .i64 a.f2, .int .i64 a.f3, .int .i64 a.f4]] w fun e w' => e = .returned (.bool true) ∧ Below w.heap.size w w' := by
 have hu24 := Try.underlying24
 have hu61 := Try.underlying61
 have hb0 := (Below.refl _ w).alloc (Nat.le_refl _) (.cells #[.int .i64 a.f0, .int .i64 a.f1, .int .i64 a.f2, .int .i64 a.f3, .int .i64 a.f4] 24)
 have HC := Aside0.mk (Kd.C_below hr hb0)
 have HB := Aside0.mk hb0
 have HX := Aside0.mk (heap1_0 w (.cells #[.int .i64 a.f0, .int .i64 a.f1, .int .i64 a.f2, .int .i64 a.f3, .int .i64 a.f4] 24))
 clear hr hb0
 by_cases h60 : (l.length : Int) ≤ 60
 · have H16 : Aside0 (∀ (W : World), Kd.C k24 W A l.length l → Calls Try.prog 16 #[.slice A l.length c] W fun e w' => e = .returned (.bool true) ∧ Below W.heap.size W w') := ⟨fun W h => (cosignerlaw12_short.calls A c l true W h hc (by unfold cosignerlaw12_short.f; rw [decide_eq_true h60])).mono fun e w' h => ⟨h.1, h.2.below⟩⟩
   have FM : Aside0 (∀ (W : World), Kd.C k24 W A l.length l → Calls Try.prog 25 #[.int .i64 n, .slice A l.length c, .agg #[.int .i64 a.f0, .int .i64 a.f1, .int .i64 a.f2, .int .i64 a.f3, .int .i64 a.f4]] W fun e w' => e = .returned (.tuple #[.bool (prove_Entails.g n l a).1, .int .i64 (prove_Entails.g n l a).2]) ∧ Below W.heap.size W w') := ⟨fun W h => Entails_calls n A c l a W h hc⟩
   have FR : Aside0 (∀ (W : World), Kd.C k24 W A l.length l → Calls Try.prog 33 #[.int .i64 n, .slice A l.length c, .agg #[.int .i64 a.f0, .int .i64 a.f1, .int .i64 a.f2, .int .i64 a.f3, .int .i64 a.f4]] W fun e w' => e = .returned (.agg #[.bool (prove_Entails.g n l a).1, .int .i64 (prove_Entails.g n l a).2]) ∧ Below W.heap.size W w') := ⟨fun W h => cosignerref12_Entails.calls 80 n A c l a.f0 a.f1 a.f2 a.f3 a.f4 _ _ W h hc (Entails_f n l a 80 (by omega))⟩
   have FN : Aside0 ((prove_Entails.g n l a).1 = false → ∀ (W : World), Kd.C k24 W A l.length l → Calls Try.prog 34 #[.int .i64 n, .slice A l.length c, .agg #[.int .i64 a.f0, .int .i64 a.f1, .int .i64 a.f2, .int .i64 a.f3, .int .i64 a.f4]] W fun e w' => e = .returned (.tuple #[.slice none 0 0, .bool false, .int .i64 (prove_Entails.g n l a).2]) ∧ Below W.heap.size W w') := ⟨fun hg W h => Prove_no n A c l a W h hc hg⟩
   have FY : Aside0 ((prove_Entails.g n l a).1 = true → ∀ (W : World), Kd.C k24 W A l.length l → Calls Try.prog 34 #[.int .i64 n, .slice A l.length c, .agg #[.int .i64 a.f0, .int .i64 a.f1, .int .i64 a.f2, .int .i64 a.f3, .int .i64 a.f4]] W fun e w' => ∃ A' c' out, e = .returned (.tuple #[.slice A' out.length c', .bool true, .int .i64 (prove_Entails.g n l a).2]) ∧ out.length ≤ c' ∧ Aside0 (Kd.C k166 w' A' out.length out) ∧ Below W.heap.size W w' ∧ Aside0 (∀ V, Kd.C k24 V A l.length l → Kd.C k166 V A' out.length out → Calls Try.prog 35 #[.int .i64 n, .slice A l.length c, .agg #[.int .i64 a.f0, .int .i64 a.f1, .int .i64 a.f2, .int .i64 a.f3, .int .i64 a.f4], .slice A' out.length c'] V fun e w' => e = .returned (.int .i64 0) ∧ Below V.heap.size V w')) := ⟨fun hg W h => (Prove_yes n A c l a W h hc hg).mono fun e w' ⟨A', c', out, h1, h2, h3, h4, h5⟩ => ⟨A', c', out, h1, h2, h3, h4, ⟨fun V hV hO => by
    obtain ⟨hl, t, q1, q2, q3, q4⟩ := h5.out
    obtain ⟨hk, ha⟩ := line_parts hl
    obtain ⟨k1, k2, _, _⟩ := check_ok hk
    obtain ⟨n, rfl⟩ : ∃ m : Nat, n = m := ⟨n.toNat, by omega⟩
    exact want_ok hl q1 q2 q3 q4 A c A' c' V hV hc hO h2⟩⟩⟩
   generalize prove_Entails.g n l a = g at *
   obtain ⟨is, er⟩ := g
   dsimp only at FM FR FN FY
   have e1 : (er != er) = false := by simp
   cases is
   · have FN2 := Aside0.mk (FN.out rfl)
     clear FN FY
     go_enter Try.func8, Try.ntmps8
     go_upto_region 1 with (fail)
     generalize (w.alloc (.cells #[.int .i64 a.f0, .int .i64 a.f1, .int .i64 a.f2, .int .i64 a.f3, .int .i64 a.f4] 24)) = w0 at *
     go_upto_region 5 with (first | (go_at_call 16; refine (H16.out _ HC.out).mono ?_; rintro e wa ⟨rfl, hb⟩; have n0_ := Aside0.mk (below_step HB.out hb); clear HB; have HB := n0_; clear n0_; have n1_ := Aside0.mk (Kd.C_below HC.out hb); clear HC; have HC := n1_; clear n1_; have n2_ := Aside0.mk (blk_below HX.out hb); clear HX; have HX := n2_; clear n2_; clear hb; have hx := HX.out; have x0 : wa.cell? ⟨w.heap.size, 0, none⟩ = some (.int .i64 a.f0) := (cell_of hx 0).trans rfl; have x1 : wa.cell? ⟨w.heap.size, 1, none⟩ = some (.int .i64 a.f1) := (cell_of hx 1).trans rfl; have x2 : wa.cell? ⟨w.heap.size, 2, none⟩ = some (.int .i64 a.f2) := (cell_of hx 2).trans rfl; have x3 : wa.cell? ⟨w.heap.size, 3, none⟩ = some (.int .i64 a.f3) := (cell_of hx 3).trans rfl; have x4 : wa.cell? ⟨w.heap.size, 4, none⟩ = some (.int .i64 a.f4) := (cell_of hx 4).trans rfl; clear hx) | (go_at_call 25; refine (FM.out _ HC.out).mono ?_; rintro e wb ⟨rfl, hb⟩; have n0_ := Aside0.mk (below_step HB.out hb); clear HB; have HB := n0_; clear n0_; have n1_ := Aside0.mk (Kd.C_below HC.out hb); clear HC; have HC := n1_; clear n1_; have n2_ := Aside0.mk (blk_below HX.out hb); clear HX; have HX := n2_; clear n2_; clear hb x0 x1 x2 x3 x4; have hx := HX.out; have x0 : wb.cell? ⟨w.heap.size, 0, none⟩ = some (.int .i64 a.f0) := (cell_of hx 0).trans rfl; have x1 : wb.cell? ⟨w.heap.size, 1, none⟩ = some (.int .i64 a.f1) := (cell_of hx 1).trans rfl; have x2 : wb.cell? ⟨w.heap.size, 2, none⟩ = some (.int .i64 a.f2) := (cell_of hx 2).trans rfl; have x3 : wb.cell? ⟨w.heap.size, 3, none⟩ = some (.int .i64 a.f3) := (cell_of hx 3).trans rfl; have x4 : wb.cell? ⟨w.heap.size, 4, none⟩ = some (.int .i64 a.f4) := (cell_of hx 4).trans rfl; clear hx) | (go_at_call 33; refine (FR.out _ HC.out).mono ?_; rintro e wc ⟨rfl, hb⟩; have n0_ := Aside0.mk (below_step HB.out hb); clear HB; have HB := n0_; clear n0_; have n1_ := Aside0.mk (Kd.C_below HC.out hb); clear HC; have HC := n1_; clear n1_; have n2_ := Aside0.mk (blk_below HX.out hb); clear HX; have HX := n2_; clear n2_; clear hb x0 x1 x2 x3 x4))
     have hR1 := heap1_0 wc (.cells #[.bool false, .int .i64 er] 61)
     have hb1 := (Below.refl _ wc).alloc (Nat.le_refl _) (.cells #[.bool false, .int .i64 er] 61)
     have HC1 := Aside0.mk (Kd.C_below HC.out hb1)
     have HB1 := Aside0.mk (below_step HB.out hb1)
     have HX1 := Aside0.mk (blk_below HX.out hb1)
     have HR1 := Aside0.mk hR1
     clear HC HB HX hR1 hb1
     generalize (wc.alloc (.cells #[.bool false, .int .i64 er] 61)) = w1 at *
     generalize wc.heap.size = g1 at *
     have hx := HX1.out
     have x0 : w1.cell? ⟨w.heap.size, 0, none⟩ = some (.int .i64 a.f0) := (cell_of hx 0).trans rfl
     have x1 : w1.cell? ⟨w.heap.size, 1, none⟩ = some (.int .i64 a.f1) := (cell_of hx 1).trans rfl
     have x2 : w1.cell? ⟨w.heap.size, 2, none⟩ = some (.int .i64 a.f2) := (cell_of hx 2).trans rfl
     have x3 : w1.cell? ⟨w.heap.size, 3, none⟩ = some (.int .i64 a.f3) := (cell_of hx 3).trans rfl
     have x4 : w1.cell? ⟨w.heap.size, 4, none⟩ = some (.int .i64 a.f4) := (cell_of hx 4).trans rfl
     clear hx
     go_upto_region 6 with (go_at_call 34; refine (FN2.out _ HC1.out).mono ?_; rintro e wd ⟨rfl, hb⟩; have HB2 := Aside0.mk (below_step HB1.out hb); have hx4 := blk_below HR1.out hb; have q0 : wd.cell? ⟨g1, 0, none⟩ = some (.bool false) := (cell_of hx4 0).trans rfl; have q1 : wd.cell? ⟨g1, 1, none⟩ = some (.int .i64 er) := (cell_of hx4 1).trans rfl; clear hb hx4 HC1 HB1 HX1 HR1 x0 x1 x2 x3 x4)
     go_wp2_with (go_at_call 17; refine (sanity_calls _).mono ?_; rintro e wf ⟨rfl, hb⟩; have HB5 := Aside0.mk (below_step HB2.out hb); clear hb)
     go_ret
     exact ⟨rfl, HB5.out⟩
   · have FY2 := Aside0.mk (FY.out rfl)
     clear FN FY
     go_enter Try.func8, Try.ntmps8
     go_upto_region 1 with (fail)
     generalize (w.alloc (.cells #[.int .i64 a.f0, .int .i64 a.f1, .int .i64 a.f2, .int .i64 a.f3, .int .i64 a.f4] 24)) = w0 at *
     go_upto_region 5 with (first | (go_at_call 16; refine (H16.out _ HC.out).mono ?_; rintro e wa ⟨rfl, hb⟩; have n0_ := Aside0.mk (below_step HB.out hb); clear HB; have HB := n0_; clear n0_; have n1_ := Aside0.mk (Kd.C_below HC.out hb); clear HC; have HC := n1_; clear n1_; have n2_ := Aside0.mk (blk_below HX.out hb); clear HX; have HX := n2_; clear n2_; clear hb; have hx := HX.out; have x0 : wa.cell? ⟨w.heap.size, 0, none⟩ = some (.int .i64 a.f0) := (cell_of hx 0).trans rfl; have x1 : wa.cell? ⟨w.heap.size, 1, none⟩ = some (.int .i64 a.f1) := (cell_of hx 1).trans rfl; have x2 : wa.cell? ⟨w.heap.size, 2, none⟩ = some (.int .i64 a.f2) := (cell_of hx 2).trans rfl; have x3 : wa.cell? ⟨w.heap.size, 3, none⟩ = some (.int .i64 a.f3) := (cell_of hx 3).trans rfl; have x4 : wa.cell? ⟨w.heap.size, 4, none⟩ = some (.int .i64 a.f4) := (cell_of hx 4).trans rfl; clear hx) | (go_at_call 25; refine (FM.out _ HC.out).mono ?_; rintro e wb ⟨rfl, hb⟩; have n0_ := Aside0.mk (below_step HB.out hb); clear HB; have HB := n0_; clear n0_; have n1_ := Aside0.mk (Kd.C_below HC.out hb); clear HC; have HC := n1_; clear n1_; have n2_ := Aside0.mk (blk_below HX.out hb); clear HX; have HX := n2_; clear n2_; clear hb x0 x1 x2 x3 x4; have hx := HX.out; have x0 : wb.cell? ⟨w.heap.size, 0, none⟩ = some (.int .i64 a.f0) := (cell_of hx 0).trans rfl; have x1 : wb.cell? ⟨w.heap.size, 1, none⟩ = some (.int .i64 a.f1) := (cell_of hx 1).trans rfl; have x2 : wb.cell? ⟨w.heap.size, 2, none⟩ = some (.int .i64 a.f2) := (cell_of hx 2).trans rfl; have x3 : wb.cell? ⟨w.heap.size, 3, none⟩ = some (.int .i64 a.f3) := (cell_of hx 3).trans rfl; have x4 : wb.cell? ⟨w.heap.size, 4, none⟩ = some (.int .i64 a.f4) := (cell_of hx 4).trans rfl; clear hx) | (go_at_call 33; refine (FR.out _ HC.out).mono ?_; rintro e wc ⟨rfl, hb⟩; have n0_ := Aside0.mk (below_step HB.out hb); clear HB; have HB := n0_; clear n0_; have n1_ := Aside0.mk (Kd.C_below HC.out hb); clear HC; have HC := n1_; clear n1_; have n2_ := Aside0.mk (blk_below HX.out hb); clear HX; have HX := n2_; clear n2_; clear hb x0 x1 x2 x3 x4))
     have hR1 := heap1_0 wc (.cells #[.bool true, .int .i64 er] 61)
     have hb1 := (Below.refl _ wc).alloc (Nat.le_refl _) (.cells #[.bool true, .int .i64 er] 61)
     have HC1 := Aside0.mk (Kd.C_below HC.out hb1)
     have HB1 := Aside0.mk (below_step HB.out hb1)
     have HX1 := Aside0.mk (blk_below HX.out hb1)
     have HR1 := Aside0.mk hR1
     clear HC HB HX hR1 hb1
     generalize (wc.alloc (.cells #[.bool true, .int .i64 er] 61)) = w1 at *
     generalize wc.heap.size = g1 at *
     have hx := HX1.out
     have x0 : w1.cell? ⟨w.heap.size, 0, none⟩ = some (.int .i64 a.f0) := (cell_of hx 0).trans rfl
     have x1 : w1.cell? ⟨w.heap.size, 1, none⟩ = some (.int .i64 a.f1) := (cell_of hx 1).trans rfl
     have x2 : w1.cell? ⟨w.heap.size, 2, none⟩ = some (.int .i64 a.f2) := (cell_of hx 2).trans rfl
     have x3 : w1.cell? ⟨w.heap.size, 3, none⟩ = some (.int .i64 a.f3) := (cell_of hx 3).trans rfl
     have x4 : w1.cell? ⟨w.heap.size, 4, none⟩ = some (.int .i64 a.f4) := (cell_of hx 4).trans rfl
     clear hx
     go_upto_region 6 with (go_at_call 34; refine (FY2.out _ HC1.out).mono ?_; rintro e wd ⟨A', c', out, rfl, hc', HO, hb, HK⟩; have HB2 := Aside0.mk (below_step HB1.out hb); have HC2 := Aside0.mk (Kd.C_below HC1.out hb); have HX2 := Aside0.mk (blk_below HX1.out hb); have hx4 := blk_below HR1.out hb; have q0 : wd.cell? ⟨g1, 0, none⟩ = some (.bool true) := (cell_of hx4 0).trans rfl; have q1 : wd.cell? ⟨g1, 1, none⟩ = some (.int .i64 er) := (cell_of hx4 1).trans rfl; clear hb hx4 HC1 HB1 HX1 HR1 x0 x1 x2 x3 x4)
     go_wp2_with (first | (go_at_call 17; refine (sanity_calls _).mono ?_; rintro e wf ⟨rfl, hb⟩; have HB5 := Aside0.mk (below_step HB2.out hb); have HC5 := Aside0.mk (Kd.C_below HC2.out hb); have HO5 := Aside0.mk (Kd.C_below HO.out hb); have hx := blk_below HX2.out hb; have x0 : wf.cell? ⟨w.heap.size, 0, none⟩ = some (.int .i64 a.f0) := (cell_of hx 0).trans rfl; have x1 : wf.cell? ⟨w.heap.size, 1, none⟩ = some (.int .i64 a.f1) := (cell_of hx 1).trans rfl; have x2 : wf.cell? ⟨w.heap.size, 2, none⟩ = some (.int .i64 a.f2) := (cell_of hx 2).trans rfl; have x3 : wf.cell? ⟨w.heap.size, 3, none⟩ = some (.int .i64 a.f3) := (cell_of hx 3).trans rfl; have x4 : wf.cell? ⟨w.heap.size, 4, none⟩ = some (.int .i64 a.f4) := (cell_of hx 4).trans rfl; clear hb hx) | (go_at_call 35; refine (HK.out _ HC5.out HO5.out).mono ?_; rintro e wg ⟨rfl, hb⟩; have HB6 := Aside0.mk (below_step HB5.out hb); clear hb))
     go_ret
     exact ⟨rfl, HB6.out⟩
 · have H16 : Aside0 (∀ (W : World), Kd.C k24 W A l.length l → Calls Try.prog 16 #[.slice A l.length c] W fun e w' => e = .returned (.bool false) ∧ Below W.heap.size W w') := ⟨fun W h => (cosignerlaw12_short.calls A c l false W h hc (by unfold cosignerlaw12_short.f; rw [decide_eq_false h60])).mono fun e w' h => ⟨h.1, h.2.below⟩⟩
   go_enter Try.func8, Try.ntmps8
   go_upto_region 1 with (fail)
   generalize (w.alloc (.cells #[.int .i64 a.f0, .int .i64 a.f1, .int .i64 a.f2, .int .i64 a.f3, .int .i64 a.f4] 24)) = w0 at *
   go_wp2_with (first | (go_at_call 16; refine (H16.out _ HC.out).mono ?_; rintro e wa ⟨rfl, hb⟩; have HB1 := Aside0.mk (below_step HB.out hb); clear hb) | (go_at_call 17; refine (sanity_calls _).mono ?_; rintro e wf ⟨rfl, hb⟩; have HB5 := Aside0.mk (below_step HB1.out hb); clear hb))
   go_ret
   exact ⟨rfl, HB5.out⟩
end Go.Proofs.Ytmoiickbgokloaa.PA
