/- The law ProveBounds: its plain law, and its walk. -/
import Derived.Test.YtmoiickbgokloaaDRc
namespace Go.Proofs.Ytmoiickbgokloaa.PA
open Go.RowKit Go.Proofs.YtmoiickbgokloaaW.PrintWords Go.Proofs.YtmoiickbgokloaaW.PrintLast Go.Proofs.YtmoiickbgokloaaW.PrintMore Go.Proofs.Ytmoiickbgokloaa.Utv
set_option linter.unusedVariables false
set_option linter.unusedSimpArgs false
theorem tight_ok {n : Nat} {l : List S24} (hr : Rts n l) (hn : n ≤ 12) (hs : satB l = true) : TightOk l n (tightV n l) := by
 rcases all_told hr hn ((Bg.all hr l.length (Nat.le_refl _)).fw hr) with ⟨_, h⟩ | ⟨_, h1, h2⟩
 · rw [hs] at h; cases h
 · by_cases hk : okV (2 * n) (m1V (allV (2 * n) (linesV l l.length) (2 * n)))
   · exact (h1 hk).2
   · have := h2 hk; rw [hs] at this; cases this
theorem top_exists {n : Nat} {l : List S24} (hr : Rts n l) (hn : n ≤ 12) (hs : satB l = true) {a : S24} (r : Rt n a) : ∃ v, Top l a v := by
 rcases FW.all hr hn ((Bg.all hr l.length (Nat.le_refl _)).fw hr) (2 * n) (Nat.le_refl _) with h | ⟨_, i, d, ⟨t, vs, d', ht, hd'⟩, hlt⟩
 · obtain ⟨S, hF⟩ := fin_exists hr hn (h.nn hr hn)
   have hC := (calm_iff hr hF).2 (satB_iff.1 hs)
   exact ⟨_, of_top hr hF hC r⟩
 · obtain ⟨x, hx⟩ := satB_iff.1 hs
   have := ht.sound hr hx; omega
theorem top_range {l : List S24} {a : S24} (h : ∃ v, Top l a v) : topV l a = 1152921504606846976 ∨ -1000000000 ≤ topV l a ∧ topV l a ≤ 1000000000 := by
 obtain ⟨v, hv⟩ := h
 rw [topV_eq hv]
 rcases hv with ⟨e, _⟩ | ⟨_, h1, h2, _⟩
 · exact .inl (e.trans far_def)
 · exact .inr ⟨h1, h2⟩
theorem node_f {n : Int} {k s : Int} (h0 : 0 ≤ k) (h1 : k < n) (hn : n ≤ 12) (hs : s = 1 ∨ s = -1) : cosignerref12_node.f k s = some ((endN k s : Nat) : Int) := by
 rw [← endI_nat h0]
 unfold cosignerref12_node.f endI
 rcases hs with rfl | rfl
 · rw [if_neg (by omega), if_pos (by omega), w64 (by omega) (by omega)]
 · rw [if_pos (by omega), if_neg (by omega), w64 (x := 2 * k) (by omega) (by omega), w64 (by omega) (by omega)]
theorem other_f (i : Nat) (hi : i < 1000) : cosignerref12_other.f (i : Nat) = some ((oth i : Nat) : Int) := by
 unfold cosignerref12_other.f oth
 rw [Int.tmod_eq_emod_of_nonneg (by omega)]
 by_cases h : i % 2 = 0
 · rw [if_pos (by omega), if_pos h, w64 (by omega) (by omega)]; congr 1
 · rw [if_neg (by omega), if_neg h, w64 (by omega) (by omega)]; congr 1; omega
theorem l2_rows {N : Nat} (m : Vm) {i : Nat} (hi : i < N) : rd_L2 (rowsOf N m) (i : Nat) = rowOf N m i := by
 unfold rd_L2; rw [Int.toNat_natCast]; exact rowsOf_get m hi
theorem rd_row {N : Nat} (m : Vm) (i : Nat) {j : Nat} (hj : j < N) : rd (rowOf N m i) (j : Nat) = m i j := by
 unfold rd; rw [Int.toNat_natCast]; exact rowOf_get m i hj
theorem most_f {n : Nat} {m : Vm} {a : S24} {v : Int} (hn : n ≤ 12) (r : Rt n a) (hv : mostV m a = capR v) (hb : v = 1152921504606846976 ∨ -1000000000 ≤ v ∧ v ≤ 1000000000) : cosignerref12_most.f (rowsOf (2 * n) m) a.f0 a.f1 a.f2 a.f3 a.f4 = some (capR v) := by
 have fd := farR_def
 have hd := far_def
 have ha := endN_lt (s := a.f1) r.a0 r.a1
 have hoa := oth_lt ha
 unfold cosignerref12_most.f
 rw [node_f r.a0 r.a1 (by omega) r.p, Option.bind_some]
 have hcv : capR v = farR ∧ v = 1152921504606846976 ∨ capR v = v ∧ -1000000000 ≤ v ∧ v ≤ 1000000000 := by
  unfold capR
  rcases hb with h | h
  · left; rw [if_pos (by omega)]; exact ⟨rfl, h⟩
  · right; rw [if_neg (by omega)]; exact ⟨rfl, h⟩
 unfold mostV at hv
 by_cases hq : a.f3 = 0
 · rw [if_pos hq] at hv ⊢
   rw [other_f _ (by omega), Option.bind_some, l2_rows m hoa, rd_row m _ ha, rowOf_len, rowsOf_len, if_pos (by omega), if_pos (by omega), if_pos (by omega), if_pos (by omega)]
   by_cases hf : farR ≤ m (oth (endN a.f0 a.f1)) (endN a.f0 a.f1)
   · rw [if_pos hf] at hv
     rw [if_pos (by omega), ← hv]; rfl
   · rw [if_neg hf] at hv
     rw [if_neg (by omega)]
     simp only [Option.bind_some]
     rw [l2_rows m hoa, rd_row m _ ha, rowOf_len, if_pos (by omega), if_pos (by omega), if_pos (by omega)]
     have : cosignerref12_half.f (m (oth (endN a.f0 a.f1)) (endN a.f0 a.f1)) = some (m (oth (endN a.f0 a.f1)) (endN a.f0 a.f1) / 2) := by
      have e := halfW_eq (x := m (oth (endN a.f0 a.f1)) (endN a.f0 a.f1)) (by omega) (by omega)
      unfold cosignerref12_half.f
      unfold halfW at e
      split
      · rename_i hh; rw [if_pos hh] at e; rw [e]
      · rename_i hh; rw [if_neg hh] at e; rw [e]
     rw [this, Option.bind_some, hv]
 · rw [if_neg hq] at hv ⊢
   have hbb : 0 ≤ a.f2 ∧ a.f2 < n := by rcases r.q with ⟨h, _⟩ | ⟨_, h⟩; exact (hq h).elim; exact ⟨h.1, h.2.1⟩
   have hs : a.f3 = 1 ∨ a.f3 = -1 := by rcases r.q with ⟨h, _⟩ | ⟨h, _⟩; exact (hq h).elim; exact h
   have hbn := endN_lt (s := a.f3) hbb.1 hbb.2
   have e1 : oth (endN a.f2 a.f3) = endN a.f2 (-a.f3) := neg_end hbb.1 hs
   have hob := oth_lt hbn
   rw [node_f hbb.1 hbb.2 (by omega) hs, Option.bind_some, other_f _ (by omega), Option.bind_some, l2_rows m hob, rd_row m _ ha, rowOf_len, rowsOf_len, if_pos (by omega), if_pos (by omega), if_pos (by omega), if_pos (by omega), e1, hv]
theorem asked_f (n : Int) (l : List S24) (a : S24) (k : Nat) (hk : 80 ≤ k) : cosignerref12_asked.f k n l a.f0 a.f1 a.f2 a.f3 a.f4 = some (lineE n l a) := by
 unfold cosignerref12_asked.f lineE
 rw [rf_check n l k hk, Option.bind_some]
 by_cases h : checkE n l = 0
 · obtain ⟨h1, h2, _, _⟩ := check_ok h
   rw [if_pos h, if_pos h, rf_right n (by omega) (by omega), Option.bind_some]
   cases hb : rightB n a
   · have : rightB n ⟨a.f0, a.f1, a.f2, a.f3, a.f4⟩ = false := hb
     simp [this]
   · have : rightB n ⟨a.f0, a.f1, a.f2, a.f3, a.f4⟩ = true := hb
     simp [this]
 · rw [if_neg h, if_neg h]
theorem line_parts {n : Int} {l : List S24} {a : S24} (h : lineE n l a = 0) : checkE n l = 0 ∧ rightB n a = true := by
 unfold lineE at h
 by_cases hk : checkE n l = 0
 · rw [if_pos hk] at h
   refine ⟨hk, ?_⟩
   cases e : rightB n a
   · rw [e] at h; simp at h
   · rfl
 · rw [if_neg hk] at h; exact (hk h).elim
theorem ref_Most (n : Int) (l : List S24) (a : S24) (k : Nat) (hk : 80 ≤ k) : cosignerref12_Most.f k n l a.f0 a.f1 a.f2 a.f3 a.f4 = some (prove_Most.g n l a) := by
 have fd := farR_def
 unfold cosignerref12_Most.f prove_Most.g
 rw [asked_f n l a k hk, Option.bind_some]
 by_cases h : lineE n l a = 0
 · obtain ⟨hc, hra⟩ := line_parts h
   obtain ⟨h1, h2, _, h4⟩ := check_ok hc
   obtain ⟨n, rfl⟩ : ∃ m : Nat, n = m := ⟨n.toNat, by omega⟩
   have r := rt_of_right hra
   rw [if_pos h, if_pos h]
   unfold cosignerref12_tight.f
   rw [if_pos hc, Option.bind_some]
   cases hs : satB l
   · simp
   · simp only [if_true]
     have hT := tight_ok h4 (by omega) hs a r
     have hb := top_range (top_exists h4 (by omega) hs r)
     rw [Int.toNat_natCast, most_f (by omega) r hT hb, Option.bind_some]
     unfold capR
     rw [far_def]
     rcases hb with h | h
     · rw [if_pos h, if_pos (by omega), if_pos h]
     · rw [if_neg (by omega), if_neg (by omega), if_neg (by omega)]
 · rw [if_neg h, if_neg h]
theorem ref_Span (n : Int) (l : List S24) (x : Int) (k : Nat) (hk : 80 ≤ k) : cosignerref12_Span.f k n l x = some (prove_Span.g n l x) := by
 unfold cosignerref12_Span.f prove_Span.g
 rw [rf_check n l k hk, Option.bind_some]
 by_cases h : checkE n l = 0
 · obtain ⟨h1, h2, _, h4⟩ := check_ok h
   have hin : cosignerref12_in.f x 0 (wrap64 (n - 1)) = some (decide (0 ≤ x) && decide (x ≤ n - 1)) := by
    rw [w64 (by omega) (by omega)]
    unfold cosignerref12_in.f
    by_cases h : 0 ≤ x
    · rw [if_pos h]; simp [h]
    · rw [if_neg h]; simp [h]
   rw [if_pos h, hin, Option.bind_some]
   obtain ⟨m, rfl⟩ : ∃ m : Nat, n = m := ⟨n.toNat, by omega⟩
   by_cases hx : 0 ≤ x ∧ x ≤ (m : Int) - 1
   · have hi : indexE m l x = 0 := by unfold indexE; rw [if_pos h, if_pos hx]
     have hl : ∀ s, s = 1 ∨ s = -1 → lineE m l (pt x s) = 0 := fun s hs => by
      unfold lineE; rw [if_pos h, if_pos]
      exact right_of_rt (pt_rt hx.1 (by omega) hs)
     have e1 : cosignerref12_Most.f k m l x 1 0 0 0 = some (prove_Most.g m l (pt x 1)) := ref_Most m l (pt x 1) k hk
     have e2 : cosignerref12_Most.f k m l x (-1) 0 0 0 = some (prove_Most.g m l (pt x (-1))) := ref_Most m l (pt x (-1)) k hk
     rw [if_pos (by simp; omega), e1, Option.bind_some, e2, Option.bind_some, if_pos hi]
     unfold prove_Most.g
     rw [if_pos (hl 1 (.inl rfl)), if_pos (hl (-1) (.inr rfl))]
     cases hs : satB l
     · simp
     · simp only [if_true]
       have b1 := top_range (top_exists h4 (by omega) hs (pt_rt (n := m) hx.1 (by omega) (.inl rfl : (1 : Int) = 1 ∨ (1 : Int) = -1)))
       have b2 := top_range (top_exists h4 (by omega) hs (pt_rt (n := m) hx.1 (by omega) (.inr rfl : (-1 : Int) = 1 ∨ (-1 : Int) = -1)))
       by_cases f1 : topV l (pt x 1) = 1152921504606846976
       · simp [f1]
       · by_cases f2 : topV l (pt x (-1)) = 1152921504606846976
         · simp [f1, f2]
         · have e3 : wrap64 (-topV l (pt x (-1))) = -topV l (pt x (-1)) := w64 (by omega) (by omega)
           simp [f1, f2, e3]
   · have hi : indexE m l x = 1 := by unfold indexE; rw [if_pos h, if_neg hx]
     rw [if_neg (by simp; omega), hi]; rfl
 · have hi : indexE n l x = checkE n l := by unfold indexE; rw [if_neg h]
   rw [if_neg h, hi, if_neg h]
set_option maxRecDepth 100000 in
set_option maxHeartbeats 4000000 in
theorem bounds_walk (n : Int) (A : Option Addr) (c : Nat) (l : List S24) (a : S24) (x : Int) (w : World) (hr : Kd.C k24 w A l.length l) (hc : l.length ≤ c) :
 Calls Try.prog 3 #[.int .i64 n, .slice A l.length c, .agg #[.int .i64 a.f0, .int .i64 a.f1, .int .i64 a.f2, .int .i64 a.f3, .int .i64 a.f4], .int .i64 x] w fun e w' => e = .returned (.bool true) ∧ Below w.heap.size w w' := by
 have hu24 := Try.underlying24
 have hu31 := Try.underlying31
 have hu36 := Try.underlying36
 have hb0 := (Below.refl _ w).alloc (Nat.le_refl _) (.cells #[.int .i64 a.f0, .int .i64 a.f1, .int .i64 a.f2, .int .i64 a.f3, .int .i64 a.f4] 24)
 have HC := Aside0.mk (Kd.C_below hr hb0)
 have HB := Aside0.mk hb0
 have HX := Aside0.mk (heap1_0 w (.cells #[.int .i64 a.f0, .int .i64 a.f1, .int .i64 a.f2, .int .i64 a.f3, .int .i64 a.f4] 24))
 clear hr hb0
 by_cases h60 : (l.length : Int) ≤ 60
 · obtain ⟨m, hm⟩ : ∃ m, m = prove_Most.g n l a := ⟨_, rfl⟩
   obtain ⟨s, hs⟩ : ∃ m, m = prove_Span.g n l x := ⟨_, rfl⟩
   have FM : Aside0 (∀ (W : World), Kd.C k24 W A l.length l → Calls Try.prog 18 #[.int .i64 n, .slice A l.length c, .agg #[.int .i64 a.f0, .int .i64 a.f1, .int .i64 a.f2, .int .i64 a.f3, .int .i64 a.f4]] W fun e w' => e = .returned (.tuple #[.int .i64 m.1, .int .i64 m.2]) ∧ Below W.heap.size W w') := ⟨fun W h => by rw [hm]; exact Most_calls n A c l a W h hc⟩
   have FR : Aside0 (∀ (W : World), Kd.C k24 W A l.length l → Calls Try.prog 19 #[.int .i64 n, .slice A l.length c, .agg #[.int .i64 a.f0, .int .i64 a.f1, .int .i64 a.f2, .int .i64 a.f3, .int .i64 a.f4]] W fun e w' => e = .returned (.agg #[.int .i64 m.1, .int .i64 m.2]) ∧ Below W.heap.size W w') := ⟨fun W h => cosignerref12_Most.calls 80 n A c l a.f0 a.f1 a.f2 a.f3 a.f4 m.1 m.2 W h hc (by rw [ref_Most n l a 80 (by omega), hm])⟩
   have FS : Aside0 (∀ (W : World), Kd.C k24 W A l.length l → Calls Try.prog 20 #[.int .i64 n, .slice A l.length c, .int .i64 x] W fun e w' => e = .returned (.tuple #[.int .i64 s.1, .int .i64 s.2.1, .int .i64 s.2.2]) ∧ Below W.heap.size W w') := ⟨fun W h => by rw [hs]; exact Span_calls n A c l x W h hc⟩
   have FT : Aside0 (∀ (W : World), Kd.C k24 W A l.length l → Calls Try.prog 21 #[.int .i64 n, .slice A l.length c, .int .i64 x] W fun e w' => e = .returned (.agg #[.int .i64 s.1, .int .i64 s.2.1, .int .i64 s.2.2]) ∧ Below W.heap.size W w') := ⟨fun W h => cosignerref12_Span.calls 80 n A c l x s.1 s.2.1 s.2.2 W h hc (by rw [ref_Span n l x 80 (by omega), hs])⟩
   have H16 : Aside0 (∀ (W : World), Kd.C k24 W A l.length l → Calls Try.prog 16 #[.slice A l.length c] W fun e w' => e = .returned (.bool true) ∧ Below W.heap.size W w') := ⟨fun W h => (cosignerlaw12_short.calls A c l true W h hc (by unfold cosignerlaw12_short.f; rw [decide_eq_true h60])).mono fun e w' h => ⟨h.1, h.2.below⟩⟩
   clear hm hs
   obtain ⟨m1, m2⟩ := m
   obtain ⟨s1, s2, s3⟩ := s
   go_enter Try.func3, Try.ntmps3
   go_upto_region 1 with (fail)
   generalize (w.alloc (.cells #[.int .i64 a.f0, .int .i64 a.f1, .int .i64 a.f2, .int .i64 a.f3, .int .i64 a.f4] 24)) = w0 at *
   go_upto_region 5 with (first | (go_at_call 16; refine (H16.out _ HC.out).mono ?_; rintro e wa ⟨rfl, hb⟩; have n0_ := Aside0.mk (below_step HB.out hb); clear HB; have HB := n0_; clear n0_; have n1_ := Aside0.mk (Kd.C_below HC.out hb); clear HC; have HC := n1_; clear n1_; have n2_ := Aside0.mk (blk_below HX.out hb); clear HX; have HX := n2_; clear n2_ hb; have hx := HX.out; have x0 : wa.cell? ⟨w.heap.size, 0, none⟩ = some (.int .i64 a.f0) := (cell_of hx 0).trans rfl; have x1 : wa.cell? ⟨w.heap.size, 1, none⟩ = some (.int .i64 a.f1) := (cell_of hx 1).trans rfl; have x2 : wa.cell? ⟨w.heap.size, 2, none⟩ = some (.int .i64 a.f2) := (cell_of hx 2).trans rfl; have x3 : wa.cell? ⟨w.heap.size, 3, none⟩ = some (.int .i64 a.f3) := (cell_of hx 3).trans rfl; have x4 : wa.cell? ⟨w.heap.size, 4, none⟩ = some (.int .i64 a.f4) := (cell_of hx 4).trans rfl; clear hx) | (go_at_call 18; refine (FM.out _ HC.out).mono ?_; rintro e wb ⟨rfl, hb⟩; have n0_ := Aside0.mk (below_step HB.out hb); clear HB; have HB := n0_; clear n0_; have n1_ := Aside0.mk (Kd.C_below HC.out hb); clear HC; have HC := n1_; clear n1_; have n2_ := Aside0.mk (blk_below HX.out hb); clear HX; have HX := n2_; clear n2_ hb; clear x0 x1 x2 x3 x4; have hx := HX.out; have x0 : wb.cell? ⟨w.heap.size, 0, none⟩ = some (.int .i64 a.f0) := (cell_of hx 0).trans rfl; have x1 : wb.cell? ⟨w.heap.size, 1, none⟩ = some (.int .i64 a.f1) := (cell_of hx 1).trans rfl; have x2 : wb.cell? ⟨w.heap.size, 2, none⟩ = some (.int .i64 a.f2) := (cell_of hx 2).trans rfl; have x3 : wb.cell? ⟨w.heap.size, 3, none⟩ = some (.int .i64 a.f3) := (cell_of hx 3).trans rfl; have x4 : wb.cell? ⟨w.heap.size, 4, none⟩ = some (.int .i64 a.f4) := (cell_of hx 4).trans rfl; clear hx) | (go_at_call 19; refine (FR.out _ HC.out).mono ?_; rintro e wc ⟨rfl, hb⟩; have n0_ := Aside0.mk (below_step HB.out hb); clear HB; have HB := n0_; clear n0_; have n1_ := Aside0.mk (Kd.C_below HC.out hb); clear HC; have HC := n1_; clear n1_; have n2_ := Aside0.mk (blk_below HX.out hb); clear HX; have HX := n2_; clear n2_ hb; clear x0 x1 x2 x3 x4))
   have hX1 := heap1_0 wc (.cells #[.int .i64 m1, .int .i64 m2] 31)
   have hb1 := (Below.refl _ wc).alloc (Nat.le_refl _) (.cells #[.int .i64 m1, .int .i64 m2] 31)
   have HC1 := Aside0.mk (Kd.C_below HC.out hb1)
   have HB1 := Aside0.mk (below_step HB.out hb1)
   have HX1 := Aside0.mk hX1
   clear HC HB HX hX1 hb1
   generalize (wc.alloc (.cells #[.int .i64 m1, .int .i64 m2] 31)) = w1 at *
   generalize wc.heap.size = g1 at *
   go_upto_region 7 with (first | (go_at_call 20; refine (FS.out _ HC1.out).mono ?_; rintro e wd ⟨rfl, hb⟩; have HC2 := Aside0.mk (Kd.C_below HC1.out hb); have HB2 := Aside0.mk (below_step HB1.out hb); have HX2 := Aside0.mk (blk_below HX1.out hb); clear hb HC1 HB1 HX1) | (go_at_call 21; refine (FT.out _ HC2.out).mono ?_; rintro e we ⟨rfl, hb⟩; have HB3 := Aside0.mk (below_step HB2.out hb); have HX3 := Aside0.mk (blk_below HX2.out hb); clear hb HC2 HB2 HX2))
   have hX4 := heap1_0 we (.cells #[.int .i64 s1, .int .i64 s2, .int .i64 s3] 36)
   have hb4 := (Below.refl _ we).alloc (Nat.le_refl _) (.cells #[.int .i64 s1, .int .i64 s2, .int .i64 s3] 36)
   have HB4 := Aside0.mk (below_step HB3.out hb4)
   have HX5 := Aside0.mk (blk_below HX3.out hb4)
   have HX4 := Aside0.mk hX4
   clear HB3 HX3 hX4 hb4
   generalize (we.alloc (.cells #[.int .i64 s1, .int .i64 s2, .int .i64 s3] 36)) = w2 at *
   generalize we.heap.size = g2 at *
   go_wp2_with (go_at_call 17; refine (sanity_calls _).mono ?_; rintro e wf ⟨rfl, hb⟩; have HB5 := Aside0.mk (below_step HB4.out hb); have hx5 := blk_below HX5.out hb; have hx4 := blk_below HX4.out hb; have p0 : wf.cell? ⟨g1, 0, none⟩ = some (.int .i64 m1) := (cell_of hx5 0).trans rfl; have p1 : wf.cell? ⟨g1, 1, none⟩ = some (.int .i64 m2) := (cell_of hx5 1).trans rfl; have q0 : wf.cell? ⟨g2, 0, none⟩ = some (.int .i64 s1) := (cell_of hx4 0).trans rfl; have q1 : wf.cell? ⟨g2, 1, none⟩ = some (.int .i64 s2) := (cell_of hx4 1).trans rfl; have q2 : wf.cell? ⟨g2, 2, none⟩ = some (.int .i64 s3) := (cell_of hx4 2).trans rfl; clear hb hx4 hx5)
   go_ret
   exact ⟨rfl, HB5.out⟩
 · have H16 : Aside0 (∀ (W : World), Kd.C k24 W A l.length l → Calls Try.prog 16 #[.slice A l.length c] W fun e w' => e = .returned (.bool false) ∧ Below W.heap.size W w') := ⟨fun W h => (cosignerlaw12_short.calls A c l false W h hc (by unfold cosignerlaw12_short.f; rw [decide_eq_false h60])).mono fun e w' h => ⟨h.1, h.2.below⟩⟩
   go_enter Try.func3, Try.ntmps3
   go_upto_region 1 with (fail)
   generalize (w.alloc (.cells #[.int .i64 a.f0, .int .i64 a.f1, .int .i64 a.f2, .int .i64 a.f3, .int .i64 a.f4] 24)) = w0 at *
   go_wp2_with (first | (go_at_call 16; refine (H16.out _ HC.out).mono ?_; rintro e wa ⟨rfl, hb⟩; have HB1 := Aside0.mk (below_step HB.out hb); clear hb) | (go_at_call 17; refine (sanity_calls _).mono ?_; rintro e wf ⟨rfl, hb⟩; have HB5 := Aside0.mk (below_step HB1.out hb); clear hb))
   go_ret
   exact ⟨rfl, HB5.out⟩
end Go.Proofs.Ytmoiickbgokloaa.PA
