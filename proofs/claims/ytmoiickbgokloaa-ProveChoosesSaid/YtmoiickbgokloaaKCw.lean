/- The law ProveChooses: its walk. -/
import Derived.Test.YtmoiickbgokloaaKNw
import Derived.Test.YtmoiickbgokloaaKZs
import Derived.Test.YtmoiickbgokloaaKCX0
import Derived.Test.YtmoiickbgokloaaKMv
import Derived.Test.YtmoiickbgokloaaKSb
namespace Go.Proofs.Ytmoiickbgokloaa.PA
open Go.RowKit Go.Proofs.YtmoiickbgokloaaW.PrintWords Go.Proofs.YtmoiickbgokloaaW.PrintLast Go.Proofs.YtmoiickbgokloaaW.PrintMore Go.Proofs.Ytmoiickbgokloaa.Utv
set_option linter.unusedVariables false
set_option linter.unusedSimpArgs false
theorem likeL_l0 (l : List S24) (hl : l.length ≤ 1000000) : ∀ (d i k : Nat), i + d = l.length → d + 1 ≤ k → cosignerref12_SameLines.l0 k l l i = some true
 | 0, i, k + 1, hi, _ => by
  simp only [cosignerref12_SameLines.l0]
  rw [if_neg (by omega)]
 | d + 1, i, k + 1, hi, hk => by
  simp only [cosignerref12_SameLines.l0]
  rw [if_pos (by omega), if_pos (by omega), if_pos (by omega), if_neg (by simp), w64 (by omega) (by omega)]
  exact likeL_l0 l hl d (i + 1) k (by omega) (by omega)
theorem likeL_f (l : List S24) (hl : l.length ≤ 40) : cosignerref12_SameLines.f 50 l l = some true := by
 unfold cosignerref12_SameLines.f
 rw [if_pos rfl]
 exact likeL_l0 l (by omega) l.length 0 50 (by omega) (by omega)
theorem likeI_l0 (l : List Int) (hl : l.length ≤ 1000000) : ∀ (d i k : Nat), i + d = l.length → d + 1 ≤ k → cosignerref12_SameInts.l0 k l l i = some true
 | 0, i, k + 1, hi, _ => by
  simp only [cosignerref12_SameInts.l0]
  rw [if_neg (by omega)]
 | d + 1, i, k + 1, hi, hk => by
  simp only [cosignerref12_SameInts.l0]
  rw [if_pos (by omega), if_pos (by omega), if_pos (by omega), if_pos trivial, w64 (by omega) (by omega)]
  exact likeI_l0 l hl d (i + 1) k (by omega) (by omega)
theorem likeI_f (l : List Int) (hl : l.length ≤ 40) : cosignerref12_SameInts.f 50 l l = some true := by
 unfold cosignerref12_SameInts.f
 rw [if_pos rfl]
 exact likeI_l0 l (by omega) l.length 0 50 (by omega) (by omega)
theorem needed_len (n : Int) (l : List S24) : (prove_Needed.g n l).1.length ≤ 40 := by
 unfold prove_Needed.g
 by_cases h : checkE n l = 0
 · rw [if_pos h]
   obtain ⟨_, _, h3, _⟩ := check_ok h
   have := (keptN_left (fun x rest => entB rest x) l l.length).length
   show (keptN _ l l.length).length ≤ 40
   omega
 · rw [if_neg h]; simp
theorem core_len (n : Int) (l : List S24) : (prove_Core.g n l).1.length ≤ 40 := by
 unfold prove_Core.g
 by_cases h : checkE n l = 0
 · rw [if_pos h]
   obtain ⟨_, _, h3, _⟩ := check_ok h
   have := (keptN_left (fun x rest => !satB rest) l l.length).length
   split
   · simp
   · show (keptN _ l l.length).length ≤ 40
     omega
 · rw [if_neg h]; simp
theorem changed_len {n : Int} {φ : S24 → S24} {l : List S24} (h : l.length ≤ 40) : (changedG n φ l).1.length ≤ 40 := by
 unfold changedG
 split
 · simp; exact h
 · simp
theorem indexE_chk {n : Int} {l : List S24} {k : Int} (h : indexE n l k = 0) : l.length ≤ 40 := by
 obtain ⟨h1, _, _⟩ := indexE_ok h
 exact (check_ok h1).2.2.1
theorem shifted_len (n : Int) (l : List S24) (k b : Int) : (shiftedG n l k b).1.length ≤ 40 := by
 unfold shiftedG
 by_cases h : indexE n l k = 0
 · rw [if_pos h]
   split
   · exact changed_len (indexE_chk h)
   · simp
 · rw [if_neg h]; simp
theorem turned_len (n : Int) (l : List S24) (k : Int) : (turnedG n l k).1.length ≤ 40 := by
 unfold turnedG
 by_cases h : indexE n l k = 0
 · rw [if_pos h]; exact changed_len (indexE_chk h)
 · rw [if_neg h]; simp
theorem rneeded_calls (n : Int) (A : Option Addr) (c : Nat) (l : List S24) (w : World) (hr : Kd.C k24 w A l.length l) (hc : l.length ≤ c) :
 Calls Try.prog 42 #[.int .i64 n, .slice A l.length c] w fun e w' => ∃ v, e = .returned (.agg #[v, .bool false, .int .i64 (prove_Needed.g n l).2]) ∧ Kd.R (Kd.int .i64) 3 w' w.heap.size (fun _ => True) v (prove_Needed.g n l).1 ∧ Below w.heap.size w w' := by
 unfold prove_Needed.g
 by_cases hk : checkE n l = 0
 · obtain ⟨h1, _, _, _⟩ := check_ok hk
   obtain ⟨n, rfl⟩ : ∃ m : Nat, n = m := ⟨n.toNat, by omega⟩
   rw [if_pos hk]
   exact rneeded_ok n A c l w hr hc hk
 · rw [if_neg hk]
   exact (rneeded_err n A c l w hr hc hk).mono fun e w' ⟨h1, h2⟩ => ⟨_, h1, Kd.R_nil _ _ _ _ _, h2⟩
theorem rcore_calls (n : Int) (A : Option Addr) (c : Nat) (l : List S24) (w : World) (hr : Kd.C k24 w A l.length l) (hc : l.length ≤ c) :
 Calls Try.prog 43 #[.int .i64 n, .slice A l.length c] w fun e w' => ∃ v, e = .returned (.agg #[v, .bool (prove_Core.g n l).2.1, .int .i64 (prove_Core.g n l).2.2]) ∧ Kd.R (Kd.int .i64) 3 w' w.heap.size (fun _ => True) v (prove_Core.g n l).1 ∧ Below w.heap.size w w' := by
 unfold prove_Core.g
 by_cases hk : checkE n l = 0
 · obtain ⟨h1, _, _, _⟩ := check_ok hk
   obtain ⟨n, rfl⟩ : ∃ m : Nat, n = m := ⟨n.toNat, by omega⟩
   rw [if_pos hk]
   cases hs : satB l
   · rw [if_neg (by simp)]
     exact rcore_ok n A c l w hr hc hk hs
   · rw [if_pos rfl]
     exact (rcore_sat n A c l w hr hc hk hs).mono fun e w' ⟨h1, h2⟩ => ⟨_, h1, Kd.R_nil _ _ _ _ _, h2⟩
 · rw [if_neg hk]
   exact (rcore_err n A c l w hr hc hk).mono fun e w' ⟨h1, h2⟩ => ⟨_, h1, Kd.R_nil _ _ _ _ _, h2⟩
set_option maxRecDepth 100000 in
set_option maxHeartbeats 4000000 in
theorem chooses_short (n : Int) (A : Option Addr) (c : Nat) (l : List S24) (k b : Int) (w : World) (hr : Kd.C k24 w A l.length l) (hc : l.length ≤ c) (h60 : ¬(l.length : Int) ≤ 60) :
 Calls Try.prog 11 #[.int .i64 n, .slice A l.length c, .int .i64 k, .int .i64 b] w fun e w' => e = .returned (.bool true) ∧ Below w.heap.size w w' := by
 have HC := Aside0.mk hr
 clear hr
 have H16 : Aside0 (∀ (W : World), Kd.C k24 W A l.length l → Calls Try.prog 16 #[.slice A l.length c] W fun e w' => e = .returned (.bool false) ∧ Below W.heap.size W w') := ⟨fun W h => (cosignerlaw12_short.calls A c l false W h hc (by unfold cosignerlaw12_short.f; rw [decide_eq_false h60])).mono fun e w' h => ⟨h.1, h.2.below⟩⟩
 go_enter Try.func11, Try.ntmps11
 go_wp2_with (first | (go_at_call 16; refine (H16.out _ HC.out).mono ?_; rintro e wa ⟨rfl, hb⟩; have HB1 := Aside0.mk hb; clear hb) | (go_at_call 17; refine (sanity_calls _).mono ?_; rintro e wf ⟨rfl, hb⟩; have HB5 := Aside0.mk (below_step HB1.out hb); clear hb))
 go_ret
 exact ⟨rfl, HB5.out⟩
set_option maxRecDepth 100000 in
set_option maxHeartbeats 8000000 in
theorem chooses_main (n : Int) (A : Option Addr) (c : Nat) (l : List S24) (k b : Int) (w : World) (hr : Kd.C k24 w A l.length l) (hc : l.length ≤ c) (h60 : (l.length : Int) ≤ 60) :
 Calls Try.prog 11 #[.int .i64 n, .slice A l.length c, .int .i64 k, .int .i64 b] w fun e w' => e = .returned (.bool true) ∧ Below w.heap.size w w' := by
 have hu75 := Try.underlying75
 have hu80 := Try.underlying80
 have HC := Aside0.mk hr
 have HB := Aside0.mk (Below.refl w.heap.size w)
 clear hr
 have H16 : Aside0 (∀ (W : World), Kd.C k24 W A l.length l → Calls Try.prog 16 #[.slice A l.length c] W fun e w' => e = .returned (.bool true) ∧ Below W.heap.size W w') := ⟨fun W h => (cosignerlaw12_short.calls A c l true W h hc (by unfold cosignerlaw12_short.f; rw [decide_eq_true h60])).mono fun e w' h => ⟨h.1, h.2.below⟩⟩
 have F26 : Aside0 (∀ (W : World), Kd.C k24 W A l.length l → Calls Try.prog 26 #[.int .i64 n, .slice A l.length c] W fun e w' => ∃ (B : Option Addr) (d : Nat), e = .returned (.tuple #[.slice B (prove_Needed.g n l).1.length d, .int .i64 (prove_Needed.g n l).2]) ∧ (prove_Needed.g n l).1.length ≤ d ∧ Aside0 (Kd.C (Kd.int .i64) w' B (prove_Needed.g n l).1.length (prove_Needed.g n l).1) ∧ Below W.heap.size W w') := ⟨fun W h => (Needed_calls n A c l W h hc).mono fun e w' ⟨v, h1, h2, h3⟩ => by
  obtain ⟨B, d, rfl, hd, hC⟩ := Kd.R_reads h2
  exact ⟨B, d, h1, hd, ⟨hC⟩, h3⟩⟩
 have F42 : Aside0 (∀ (W : World), Kd.C k24 W A l.length l → Calls Try.prog 42 #[.int .i64 n, .slice A l.length c] W fun e w' => ∃ (B : Option Addr) (d : Nat), e = .returned (.agg #[.slice B (prove_Needed.g n l).1.length d, .bool false, .int .i64 (prove_Needed.g n l).2]) ∧ (prove_Needed.g n l).1.length ≤ d ∧ Aside0 (Kd.C (Kd.int .i64) w' B (prove_Needed.g n l).1.length (prove_Needed.g n l).1) ∧ Below W.heap.size W w') := ⟨fun W h => (rneeded_calls n A c l W h hc).mono fun e w' ⟨v, h1, h2, h3⟩ => by
  obtain ⟨B, d, rfl, hd, hC⟩ := Kd.R_reads h2
  exact ⟨B, d, h1, hd, ⟨hC⟩, h3⟩⟩
 have F28 : Aside0 (∀ (W : World), Kd.C k24 W A l.length l → Calls Try.prog 28 #[.int .i64 n, .slice A l.length c] W fun e w' => ∃ (B : Option Addr) (d : Nat), e = .returned (.tuple #[.slice B (prove_Core.g n l).1.length d, .bool (prove_Core.g n l).2.1, .int .i64 (prove_Core.g n l).2.2]) ∧ (prove_Core.g n l).1.length ≤ d ∧ Aside0 (Kd.C (Kd.int .i64) w' B (prove_Core.g n l).1.length (prove_Core.g n l).1) ∧ Below W.heap.size W w') := ⟨fun W h => (Core_calls n A c l W h hc).mono fun e w' ⟨v, h1, h2, h3⟩ => by
  obtain ⟨B, d, rfl, hd, hC⟩ := Kd.R_reads h2
  exact ⟨B, d, h1, hd, ⟨hC⟩, h3⟩⟩
 have F43 : Aside0 (∀ (W : World), Kd.C k24 W A l.length l → Calls Try.prog 43 #[.int .i64 n, .slice A l.length c] W fun e w' => ∃ (B : Option Addr) (d : Nat), e = .returned (.agg #[.slice B (prove_Core.g n l).1.length d, .bool (prove_Core.g n l).2.1, .int .i64 (prove_Core.g n l).2.2]) ∧ (prove_Core.g n l).1.length ≤ d ∧ Aside0 (Kd.C (Kd.int .i64) w' B (prove_Core.g n l).1.length (prove_Core.g n l).1) ∧ Below W.heap.size W w') := ⟨fun W h => (rcore_calls n A c l W h hc).mono fun e w' ⟨v, h1, h2, h3⟩ => by
  obtain ⟨B, d, rfl, hd, hC⟩ := Kd.R_reads h2
  exact ⟨B, d, h1, hd, ⟨hC⟩, h3⟩⟩
 have F44 : Aside0 (∀ (W : World), Kd.C k24 W A l.length l → Calls Try.prog 44 #[.int .i64 n, .slice A l.length c, .int .i64 k, .int .i64 b] W fun e w' => ∃ (B : Option Addr) (d : Nat), e = .returned (.tuple #[.slice B (shiftedG n l k b).1.length d, .int .i64 (shiftedG n l k b).2]) ∧ (shiftedG n l k b).1.length ≤ d ∧ Aside0 (Kd.C k24 w' B (shiftedG n l k b).1.length (shiftedG n l k b).1) ∧ Below W.heap.size W w') := ⟨fun W h => (prove_Shifted.calls n A c l k b _ _ W h hc rfl).mono fun e w' ⟨v, h1, h2, h3⟩ => by
  obtain ⟨B, d, rfl, hd, hC⟩ := Kd.R_reads h2
  exact ⟨B, d, h1, hd, ⟨hC⟩, h3⟩⟩
 have F45 : Aside0 (∀ (W : World), Kd.C k24 W A l.length l → Calls Try.prog 45 #[.int .i64 n, .slice A l.length c, .int .i64 k, .int .i64 b] W fun e w' => ∃ (B : Option Addr) (d : Nat), e = .returned (.agg #[.slice B (shiftedG n l k b).1.length d, .int .i64 (shiftedG n l k b).2]) ∧ (shiftedG n l k b).1.length ≤ d ∧ Aside0 (Kd.C k24 w' B (shiftedG n l k b).1.length (shiftedG n l k b).1) ∧ Below W.heap.size W w') := ⟨fun W h => (rshift_calls n A c l k b W h hc).mono fun e w' ⟨v, h1, h2, h3⟩ => by
  obtain ⟨B, d, rfl, hd, hC⟩ := Kd.R_reads h2
  exact ⟨B, d, h1, hd, ⟨hC⟩, h3⟩⟩
 have F46 : Aside0 (∀ (W : World), Kd.C k24 W A l.length l → Calls Try.prog 46 #[.int .i64 n, .slice A l.length c, .int .i64 k] W fun e w' => ∃ (B : Option Addr) (d : Nat), e = .returned (.tuple #[.slice B (turnedG n l k).1.length d, .int .i64 (turnedG n l k).2]) ∧ (turnedG n l k).1.length ≤ d ∧ Aside0 (Kd.C k24 w' B (turnedG n l k).1.length (turnedG n l k).1) ∧ Below W.heap.size W w') := ⟨fun W h => (prove_Turned.calls n A c l k _ _ W h hc rfl).mono fun e w' ⟨v, h1, h2, h3⟩ => by
  obtain ⟨B, d, rfl, hd, hC⟩ := Kd.R_reads h2
  exact ⟨B, d, h1, hd, ⟨hC⟩, h3⟩⟩
 have F47 : Aside0 (∀ (W : World), Kd.C k24 W A l.length l → Calls Try.prog 47 #[.int .i64 n, .slice A l.length c, .int .i64 k] W fun e w' => ∃ (B : Option Addr) (d : Nat), e = .returned (.agg #[.slice B (turnedG n l k).1.length d, .int .i64 (turnedG n l k).2]) ∧ (turnedG n l k).1.length ≤ d ∧ Aside0 (Kd.C k24 w' B (turnedG n l k).1.length (turnedG n l k).1) ∧ Below W.heap.size W w') := ⟨fun W h => (rturn_calls n A c l k W h hc (fun m e h1 h2 h3 => (turned_eq h1 h2 h3).1)).mono fun e w' ⟨v, h1, h2, h3⟩ => by
  obtain ⟨B, d, rfl, hd, hC⟩ := Kd.R_reads h2
  exact ⟨B, d, h1, hd, ⟨hC⟩, h3⟩⟩
 have HN := Aside0.mk (likeI_f _ (needed_len n l))
 have HK := Aside0.mk (likeI_f _ (core_len n l))
 have HS := Aside0.mk (likeL_f _ (shifted_len n l k b))
 have HT := Aside0.mk (likeL_f _ (turned_len n l k))
 generalize prove_Needed.g n l = gn at *
 generalize prove_Core.g n l = gc at *
 generalize shiftedG n l k b = gs at *
 generalize turnedG n l k = gt at *
 obtain ⟨ln, en⟩ := gn
 obtain ⟨lc, bc, ec⟩ := gc
 obtain ⟨ls, es⟩ := gs
 obtain ⟨lt, et⟩ := gt
 dsimp only at F26 F42 F28 F43 F44 F45 F46 F47 HN HK HS HT
 go_enter Try.func11, Try.ntmps11
 go_upto_region 4 with (first | (go_at_call 16; refine (H16.out _ HC.out).mono ?_; rintro e wa ⟨rfl, hb⟩; have n0_ := Aside0.mk (below_step HB.out hb); clear HB; have HB := n0_; clear n0_; have n0_ := Aside0.mk (Kd.C_below HC.out hb); clear HC; have HC := n0_; clear n0_; clear hb) | (go_at_call 26; refine (F26.out _ HC.out).mono ?_; rintro e wc1 ⟨B1, d1, rfl, hd1, HR1, hb⟩; have n0_ := Aside0.mk (below_step HB.out hb); clear HB; have HB := n0_; clear n0_; have n0_ := Aside0.mk (Kd.C_below HC.out hb); clear HC; have HC := n0_; clear n0_; clear hb))
 go_upto_region 5 with (go_at_call 42; refine (F42.out _ HC.out).mono ?_; rintro e wc2 ⟨B2, d2, rfl, hd2, HR2, hb⟩; have n0_ := Aside0.mk (below_step HB.out hb); clear HB; have HB := n0_; clear n0_; have n0_ := Aside0.mk (Kd.C_below HC.out hb); clear HC; have HC := n0_; clear n0_; have n0_ := Aside0.mk (Kd.C_below HR1.out hb); clear HR1; have HR1 := n0_; clear n0_; clear hb)
 have hR_ := heap1_0 wc2 (.cells #[.slice B2 ln.length d2, .bool false, .int .i64 en] 75)
 have hb := (Below.refl _ wc2).alloc (Nat.le_refl _) (.cells #[.slice B2 ln.length d2, .bool false, .int .i64 en] 75)
 have n0_ := Aside0.mk (below_step HB.out hb)
 clear HB
 have HB := n0_
 clear n0_
 have n0_ := Aside0.mk (Kd.C_below HC.out hb)
 clear HC
 have HC := n0_
 clear n0_
 have n0_ := Aside0.mk (Kd.C_below HR1.out hb)
 clear HR1
 have HR1 := n0_
 clear n0_
 have n0_ := Aside0.mk (Kd.C_below HR2.out hb)
 clear HR2
 have HR2 := n0_
 clear n0_
 have HX2 := Aside0.mk hR_
 clear hb hR_
 generalize (wc2.alloc (.cells #[.slice B2 ln.length d2, .bool false, .int .i64 en] 75)) = wb2 at *
 generalize wc2.heap.size = g2 at *
 go_upto_region 6 with (go_at_call 28; refine (F28.out _ HC.out).mono ?_; rintro e wc3 ⟨B3, d3, rfl, hd3, HR3, hb⟩; have n0_ := Aside0.mk (below_step HB.out hb); clear HB; have HB := n0_; clear n0_; have n0_ := Aside0.mk (Kd.C_below HC.out hb); clear HC; have HC := n0_; clear n0_; have n0_ := Aside0.mk (Kd.C_below HR1.out hb); clear HR1; have HR1 := n0_; clear n0_; have n0_ := Aside0.mk (Kd.C_below HR2.out hb); clear HR2; have HR2 := n0_; clear n0_; have n0_ := Aside0.mk (blk_below HX2.out hb); clear HX2; have HX2 := n0_; clear n0_; clear hb)
 go_upto_region 7 with (go_at_call 43; refine (F43.out _ HC.out).mono ?_; rintro e wc4 ⟨B4, d4, rfl, hd4, HR4, hb⟩; have n0_ := Aside0.mk (below_step HB.out hb); clear HB; have HB := n0_; clear n0_; have n0_ := Aside0.mk (Kd.C_below HC.out hb); clear HC; have HC := n0_; clear n0_; have n0_ := Aside0.mk (Kd.C_below HR1.out hb); clear HR1; have HR1 := n0_; clear n0_; have n0_ := Aside0.mk (Kd.C_below HR2.out hb); clear HR2; have HR2 := n0_; clear n0_; have n0_ := Aside0.mk (blk_below HX2.out hb); clear HX2; have HX2 := n0_; clear n0_; have n0_ := Aside0.mk (Kd.C_below HR3.out hb); clear HR3; have HR3 := n0_; clear n0_; clear hb)
 have hR_ := heap1_0 wc4 (.cells #[.slice B4 lc.length d4, .bool bc, .int .i64 ec] 75)
 have hb := (Below.refl _ wc4).alloc (Nat.le_refl _) (.cells #[.slice B4 lc.length d4, .bool bc, .int .i64 ec] 75)
 have n0_ := Aside0.mk (below_step HB.out hb)
 clear HB
 have HB := n0_
 clear n0_
 have n0_ := Aside0.mk (Kd.C_below HC.out hb)
 clear HC
 have HC := n0_
 clear n0_
 have n0_ := Aside0.mk (Kd.C_below HR1.out hb)
 clear HR1
 have HR1 := n0_
 clear n0_
 have n0_ := Aside0.mk (Kd.C_below HR2.out hb)
 clear HR2
 have HR2 := n0_
 clear n0_
 have n0_ := Aside0.mk (blk_below HX2.out hb)
 clear HX2
 have HX2 := n0_
 clear n0_
 have n0_ := Aside0.mk (Kd.C_below HR3.out hb)
 clear HR3
 have HR3 := n0_
 clear n0_
 have n0_ := Aside0.mk (Kd.C_below HR4.out hb)
 clear HR4
 have HR4 := n0_
 clear n0_
 have HX4 := Aside0.mk hR_
 clear hb hR_
 generalize (wc4.alloc (.cells #[.slice B4 lc.length d4, .bool bc, .int .i64 ec] 75)) = wb4 at *
 generalize wc4.heap.size = g4 at *
 go_upto_region 8 with (go_at_call 44; refine (F44.out _ HC.out).mono ?_; rintro e wc5 ⟨B5, d5, rfl, hd5, HR5, hb⟩; have n0_ := Aside0.mk (below_step HB.out hb); clear HB; have HB := n0_; clear n0_; have n0_ := Aside0.mk (Kd.C_below HC.out hb); clear HC; have HC := n0_; clear n0_; have n0_ := Aside0.mk (Kd.C_below HR1.out hb); clear HR1; have HR1 := n0_; clear n0_; have n0_ := Aside0.mk (Kd.C_below HR2.out hb); clear HR2; have HR2 := n0_; clear n0_; have n0_ := Aside0.mk (blk_below HX2.out hb); clear HX2; have HX2 := n0_; clear n0_; have n0_ := Aside0.mk (Kd.C_below HR3.out hb); clear HR3; have HR3 := n0_; clear n0_; have n0_ := Aside0.mk (Kd.C_below HR4.out hb); clear HR4; have HR4 := n0_; clear n0_; have n0_ := Aside0.mk (blk_below HX4.out hb); clear HX4; have HX4 := n0_; clear n0_; clear hb)
 go_upto_region 9 with (go_at_call 45; refine (F45.out _ HC.out).mono ?_; rintro e wc6 ⟨B6, d6, rfl, hd6, HR6, hb⟩; have n0_ := Aside0.mk (below_step HB.out hb); clear HB; have HB := n0_; clear n0_; have n0_ := Aside0.mk (Kd.C_below HC.out hb); clear HC; have HC := n0_; clear n0_; have n0_ := Aside0.mk (Kd.C_below HR1.out hb); clear HR1; have HR1 := n0_; clear n0_; have n0_ := Aside0.mk (Kd.C_below HR2.out hb); clear HR2; have HR2 := n0_; clear n0_; have n0_ := Aside0.mk (blk_below HX2.out hb); clear HX2; have HX2 := n0_; clear n0_; have n0_ := Aside0.mk (Kd.C_below HR3.out hb); clear HR3; have HR3 := n0_; clear n0_; have n0_ := Aside0.mk (Kd.C_below HR4.out hb); clear HR4; have HR4 := n0_; clear n0_; have n0_ := Aside0.mk (blk_below HX4.out hb); clear HX4; have HX4 := n0_; clear n0_; have n0_ := Aside0.mk (Kd.C_below HR5.out hb); clear HR5; have HR5 := n0_; clear n0_; clear hb)
 have hR_ := heap1_0 wc6 (.cells #[.slice B6 ls.length d6, .int .i64 es] 80)
 have hb := (Below.refl _ wc6).alloc (Nat.le_refl _) (.cells #[.slice B6 ls.length d6, .int .i64 es] 80)
 have n0_ := Aside0.mk (below_step HB.out hb)
 clear HB
 have HB := n0_
 clear n0_
 have n0_ := Aside0.mk (Kd.C_below HC.out hb)
 clear HC
 have HC := n0_
 clear n0_
 have n0_ := Aside0.mk (Kd.C_below HR1.out hb)
 clear HR1
 have HR1 := n0_
 clear n0_
 have n0_ := Aside0.mk (Kd.C_below HR2.out hb)
 clear HR2
 have HR2 := n0_
 clear n0_
 have n0_ := Aside0.mk (blk_below HX2.out hb)
 clear HX2
 have HX2 := n0_
 clear n0_
 have n0_ := Aside0.mk (Kd.C_below HR3.out hb)
 clear HR3
 have HR3 := n0_
 clear n0_
 have n0_ := Aside0.mk (Kd.C_below HR4.out hb)
 clear HR4
 have HR4 := n0_
 clear n0_
 have n0_ := Aside0.mk (blk_below HX4.out hb)
 clear HX4
 have HX4 := n0_
 clear n0_
 have n0_ := Aside0.mk (Kd.C_below HR5.out hb)
 clear HR5
 have HR5 := n0_
 clear n0_
 have n0_ := Aside0.mk (Kd.C_below HR6.out hb)
 clear HR6
 have HR6 := n0_
 clear n0_
 have HX6 := Aside0.mk hR_
 clear hb hR_
 generalize (wc6.alloc (.cells #[.slice B6 ls.length d6, .int .i64 es] 80)) = wb6 at *
 generalize wc6.heap.size = g6 at *
 go_upto_region 10 with (go_at_call 46; refine (F46.out _ HC.out).mono ?_; rintro e wc7 ⟨B7, d7, rfl, hd7, HR7, hb⟩; have n0_ := Aside0.mk (below_step HB.out hb); clear HB; have HB := n0_; clear n0_; have n0_ := Aside0.mk (Kd.C_below HC.out hb); clear HC; have HC := n0_; clear n0_; have n0_ := Aside0.mk (Kd.C_below HR1.out hb); clear HR1; have HR1 := n0_; clear n0_; have n0_ := Aside0.mk (Kd.C_below HR2.out hb); clear HR2; have HR2 := n0_; clear n0_; have n0_ := Aside0.mk (blk_below HX2.out hb); clear HX2; have HX2 := n0_; clear n0_; have n0_ := Aside0.mk (Kd.C_below HR3.out hb); clear HR3; have HR3 := n0_; clear n0_; have n0_ := Aside0.mk (Kd.C_below HR4.out hb); clear HR4; have HR4 := n0_; clear n0_; have n0_ := Aside0.mk (blk_below HX4.out hb); clear HX4; have HX4 := n0_; clear n0_; have n0_ := Aside0.mk (Kd.C_below HR5.out hb); clear HR5; have HR5 := n0_; clear n0_; have n0_ := Aside0.mk (Kd.C_below HR6.out hb); clear HR6; have HR6 := n0_; clear n0_; have n0_ := Aside0.mk (blk_below HX6.out hb); clear HX6; have HX6 := n0_; clear n0_; clear hb)
 go_upto_region 11 with (go_at_call 47; refine (F47.out _ HC.out).mono ?_; rintro e wc8 ⟨B8, d8, rfl, hd8, HR8, hb⟩; have n0_ := Aside0.mk (below_step HB.out hb); clear HB; have HB := n0_; clear n0_; have n0_ := Aside0.mk (Kd.C_below HC.out hb); clear HC; have HC := n0_; clear n0_; have n0_ := Aside0.mk (Kd.C_below HR1.out hb); clear HR1; have HR1 := n0_; clear n0_; have n0_ := Aside0.mk (Kd.C_below HR2.out hb); clear HR2; have HR2 := n0_; clear n0_; have n0_ := Aside0.mk (blk_below HX2.out hb); clear HX2; have HX2 := n0_; clear n0_; have n0_ := Aside0.mk (Kd.C_below HR3.out hb); clear HR3; have HR3 := n0_; clear n0_; have n0_ := Aside0.mk (Kd.C_below HR4.out hb); clear HR4; have HR4 := n0_; clear n0_; have n0_ := Aside0.mk (blk_below HX4.out hb); clear HX4; have HX4 := n0_; clear n0_; have n0_ := Aside0.mk (Kd.C_below HR5.out hb); clear HR5; have HR5 := n0_; clear n0_; have n0_ := Aside0.mk (Kd.C_below HR6.out hb); clear HR6; have HR6 := n0_; clear n0_; have n0_ := Aside0.mk (blk_below HX6.out hb); clear HX6; have HX6 := n0_; clear n0_; have n0_ := Aside0.mk (Kd.C_below HR7.out hb); clear HR7; have HR7 := n0_; clear n0_; clear hb)
 have hR_ := heap1_0 wc8 (.cells #[.slice B8 lt.length d8, .int .i64 et] 80)
 have hb := (Below.refl _ wc8).alloc (Nat.le_refl _) (.cells #[.slice B8 lt.length d8, .int .i64 et] 80)
 have n0_ := Aside0.mk (below_step HB.out hb)
 clear HB
 have HB := n0_
 clear n0_
 have n0_ := Aside0.mk (Kd.C_below HC.out hb)
 clear HC
 have HC := n0_
 clear n0_
 have n0_ := Aside0.mk (Kd.C_below HR1.out hb)
 clear HR1
 have HR1 := n0_
 clear n0_
 have n0_ := Aside0.mk (Kd.C_below HR2.out hb)
 clear HR2
 have HR2 := n0_
 clear n0_
 have n0_ := Aside0.mk (blk_below HX2.out hb)
 clear HX2
 have HX2 := n0_
 clear n0_
 have n0_ := Aside0.mk (Kd.C_below HR3.out hb)
 clear HR3
 have HR3 := n0_
 clear n0_
 have n0_ := Aside0.mk (Kd.C_below HR4.out hb)
 clear HR4
 have HR4 := n0_
 clear n0_
 have n0_ := Aside0.mk (blk_below HX4.out hb)
 clear HX4
 have HX4 := n0_
 clear n0_
 have n0_ := Aside0.mk (Kd.C_below HR5.out hb)
 clear HR5
 have HR5 := n0_
 clear n0_
 have n0_ := Aside0.mk (Kd.C_below HR6.out hb)
 clear HR6
 have HR6 := n0_
 clear n0_
 have n0_ := Aside0.mk (blk_below HX6.out hb)
 clear HX6
 have HX6 := n0_
 clear n0_
 have n0_ := Aside0.mk (Kd.C_below HR7.out hb)
 clear HR7
 have HR7 := n0_
 clear n0_
 have n0_ := Aside0.mk (Kd.C_below HR8.out hb)
 clear HR8
 have HR8 := n0_
 clear n0_
 have HX8 := Aside0.mk hR_
 clear hb hR_
 generalize (wc8.alloc (.cells #[.slice B8 lt.length d8, .int .i64 et] 80)) = wb8 at *
 generalize wc8.heap.size = g8 at *
 have hx_ := HX2.out
 have q2_0 : wb8.cell? ⟨g2, 0, none⟩ = some (.slice B2 ln.length d2) := (cell_of hx_ 0).trans rfl
 have q2_1 : wb8.cell? ⟨g2, 1, none⟩ = some (.bool false) := (cell_of hx_ 1).trans rfl
 have q2_2 : wb8.cell? ⟨g2, 2, none⟩ = some (.int .i64 en) := (cell_of hx_ 2).trans rfl
 clear hx_
 have hx_ := HX4.out
 have q4_0 : wb8.cell? ⟨g4, 0, none⟩ = some (.slice B4 lc.length d4) := (cell_of hx_ 0).trans rfl
 have q4_1 : wb8.cell? ⟨g4, 1, none⟩ = some (.bool bc) := (cell_of hx_ 1).trans rfl
 have q4_2 : wb8.cell? ⟨g4, 2, none⟩ = some (.int .i64 ec) := (cell_of hx_ 2).trans rfl
 clear hx_
 have e1 : (en == en) = true := by simp
 have e2 : (ec == ec) = true := by simp
 have e3 : (bc == bc) = true := by simp
 have e4 : (es == es) = true := by simp
 have e5 : (et == et) = true := by simp
 go_upto_region 12 with (first | (go_at_call 48; (with_reducible refine (cosignerref12_SameInts.calls 50 _ _ _ _ _ _ true _ HR1.out hd1 HR2.out hd2 HN.out).mono ?_); rintro e ws ⟨rfl, hd_⟩; have hb := hd_.below; have n0_ := Aside0.mk (below_step HB.out hb); clear HB; have HB := n0_; clear n0_; have n0_ := Aside0.mk (Kd.C_below HC.out hb); clear HC; have HC := n0_; clear n0_; have n0_ := Aside0.mk (Kd.C_below HR1.out hb); clear HR1; have HR1 := n0_; clear n0_; have n0_ := Aside0.mk (Kd.C_below HR2.out hb); clear HR2; have HR2 := n0_; clear n0_; have n0_ := Aside0.mk (blk_below HX2.out hb); clear HX2; have HX2 := n0_; clear n0_; have n0_ := Aside0.mk (Kd.C_below HR3.out hb); clear HR3; have HR3 := n0_; clear n0_; have n0_ := Aside0.mk (Kd.C_below HR4.out hb); clear HR4; have HR4 := n0_; clear n0_; have n0_ := Aside0.mk (blk_below HX4.out hb); clear HX4; have HX4 := n0_; clear n0_; have n0_ := Aside0.mk (Kd.C_below HR5.out hb); clear HR5; have HR5 := n0_; clear n0_; have n0_ := Aside0.mk (Kd.C_below HR6.out hb); clear HR6; have HR6 := n0_; clear n0_; have n0_ := Aside0.mk (blk_below HX6.out hb); clear HX6; have HX6 := n0_; clear n0_; have n0_ := Aside0.mk (Kd.C_below HR7.out hb); clear HR7; have HR7 := n0_; clear n0_; have n0_ := Aside0.mk (Kd.C_below HR8.out hb); clear HR8; have HR8 := n0_; clear n0_; have n0_ := Aside0.mk (blk_below HX8.out hb); clear HX8; have HX8 := n0_; clear n0_; clear hb hd_; clear q2_0 q2_1 q2_2 q4_0 q4_1 q4_2; have hx_ := HX2.out; have q2_0 : ws.cell? ⟨g2, 0, none⟩ = some (.slice B2 ln.length d2) := (cell_of hx_ 0).trans rfl; have q2_1 : ws.cell? ⟨g2, 1, none⟩ = some (.bool false) := (cell_of hx_ 1).trans rfl; have q2_2 : ws.cell? ⟨g2, 2, none⟩ = some (.int .i64 en) := (cell_of hx_ 2).trans rfl; clear hx_; have hx_ := HX4.out; have q4_0 : ws.cell? ⟨g4, 0, none⟩ = some (.slice B4 lc.length d4) := (cell_of hx_ 0).trans rfl; have q4_1 : ws.cell? ⟨g4, 1, none⟩ = some (.bool bc) := (cell_of hx_ 1).trans rfl; have q4_2 : ws.cell? ⟨g4, 2, none⟩ = some (.int .i64 ec) := (cell_of hx_ 2).trans rfl; clear hx_) | (go_at_call 48; (with_reducible refine (cosignerref12_SameInts.calls 50 _ _ _ _ _ _ true _ HR3.out hd3 HR4.out hd4 HK.out).mono ?_); rintro e wt ⟨rfl, hd_⟩; have hb := hd_.below; have n0_ := Aside0.mk (below_step HB.out hb); clear HB; have HB := n0_; clear n0_; have n0_ := Aside0.mk (Kd.C_below HC.out hb); clear HC; have HC := n0_; clear n0_; have n0_ := Aside0.mk (Kd.C_below HR1.out hb); clear HR1; have HR1 := n0_; clear n0_; have n0_ := Aside0.mk (Kd.C_below HR2.out hb); clear HR2; have HR2 := n0_; clear n0_; have n0_ := Aside0.mk (blk_below HX2.out hb); clear HX2; have HX2 := n0_; clear n0_; have n0_ := Aside0.mk (Kd.C_below HR3.out hb); clear HR3; have HR3 := n0_; clear n0_; have n0_ := Aside0.mk (Kd.C_below HR4.out hb); clear HR4; have HR4 := n0_; clear n0_; have n0_ := Aside0.mk (blk_below HX4.out hb); clear HX4; have HX4 := n0_; clear n0_; have n0_ := Aside0.mk (Kd.C_below HR5.out hb); clear HR5; have HR5 := n0_; clear n0_; have n0_ := Aside0.mk (Kd.C_below HR6.out hb); clear HR6; have HR6 := n0_; clear n0_; have n0_ := Aside0.mk (blk_below HX6.out hb); clear HX6; have HX6 := n0_; clear n0_; have n0_ := Aside0.mk (Kd.C_below HR7.out hb); clear HR7; have HR7 := n0_; clear n0_; have n0_ := Aside0.mk (Kd.C_below HR8.out hb); clear HR8; have HR8 := n0_; clear n0_; have n0_ := Aside0.mk (blk_below HX8.out hb); clear HX8; have HX8 := n0_; clear n0_; clear hb hd_; clear q2_0 q2_1 q2_2 q4_0 q4_1 q4_2; have hx_ := HX2.out; have q2_0 : wt.cell? ⟨g2, 0, none⟩ = some (.slice B2 ln.length d2) := (cell_of hx_ 0).trans rfl; have q2_1 : wt.cell? ⟨g2, 1, none⟩ = some (.bool false) := (cell_of hx_ 1).trans rfl; have q2_2 : wt.cell? ⟨g2, 2, none⟩ = some (.int .i64 en) := (cell_of hx_ 2).trans rfl; clear hx_; have hx_ := HX4.out; have q4_0 : wt.cell? ⟨g4, 0, none⟩ = some (.slice B4 lc.length d4) := (cell_of hx_ 0).trans rfl; have q4_1 : wt.cell? ⟨g4, 1, none⟩ = some (.bool bc) := (cell_of hx_ 1).trans rfl; have q4_2 : wt.cell? ⟨g4, 2, none⟩ = some (.int .i64 ec) := (cell_of hx_ 2).trans rfl; clear hx_))
 clear q2_0 q2_1 q2_2 q4_0 q4_1 q4_2
 go_wp2_with (first | (go_at_call 17; refine (sanity_calls _).mono ?_; rintro e wf ⟨rfl, hb⟩; have n0_ := Aside0.mk (below_step HB.out hb); clear HB; have HB := n0_; clear n0_; have n0_ := Aside0.mk (Kd.C_below HC.out hb); clear HC; have HC := n0_; clear n0_; have n0_ := Aside0.mk (Kd.C_below HR1.out hb); clear HR1; have HR1 := n0_; clear n0_; have n0_ := Aside0.mk (Kd.C_below HR2.out hb); clear HR2; have HR2 := n0_; clear n0_; have n0_ := Aside0.mk (blk_below HX2.out hb); clear HX2; have HX2 := n0_; clear n0_; have n0_ := Aside0.mk (Kd.C_below HR3.out hb); clear HR3; have HR3 := n0_; clear n0_; have n0_ := Aside0.mk (Kd.C_below HR4.out hb); clear HR4; have HR4 := n0_; clear n0_; have n0_ := Aside0.mk (blk_below HX4.out hb); clear HX4; have HX4 := n0_; clear n0_; have n0_ := Aside0.mk (Kd.C_below HR5.out hb); clear HR5; have HR5 := n0_; clear n0_; have n0_ := Aside0.mk (Kd.C_below HR6.out hb); clear HR6; have HR6 := n0_; clear n0_; have n0_ := Aside0.mk (blk_below HX6.out hb); clear HX6; have HX6 := n0_; clear n0_; have n0_ := Aside0.mk (Kd.C_below HR7.out hb); clear HR7; have HR7 := n0_; clear n0_; have n0_ := Aside0.mk (Kd.C_below HR8.out hb); clear HR8; have HR8 := n0_; clear n0_; have n0_ := Aside0.mk (blk_below HX8.out hb); clear HX8; have HX8 := n0_; clear n0_; clear hb; have hx_ := HX6.out; have q6_0 : wf.cell? ⟨g6, 0, none⟩ = some (.slice B6 ls.length d6) := (cell_of hx_ 0).trans rfl; have q6_1 : wf.cell? ⟨g6, 1, none⟩ = some (.int .i64 es) := (cell_of hx_ 1).trans rfl; clear hx_; have hx_ := HX8.out; have q8_0 : wf.cell? ⟨g8, 0, none⟩ = some (.slice B8 lt.length d8) := (cell_of hx_ 0).trans rfl; have q8_1 : wf.cell? ⟨g8, 1, none⟩ = some (.int .i64 et) := (cell_of hx_ 1).trans rfl; clear hx_) | (go_at_call 49; (with_reducible refine (cosignerref12_SameLines.calls 50 _ _ _ _ _ _ true _ HR5.out hd5 HR6.out hd6 HS.out).mono ?_); rintro e wy ⟨rfl, hd_⟩; have hb := hd_.below; have n0_ := Aside0.mk (below_step HB.out hb); clear HB; have HB := n0_; clear n0_; have n0_ := Aside0.mk (Kd.C_below HC.out hb); clear HC; have HC := n0_; clear n0_; have n0_ := Aside0.mk (Kd.C_below HR1.out hb); clear HR1; have HR1 := n0_; clear n0_; have n0_ := Aside0.mk (Kd.C_below HR2.out hb); clear HR2; have HR2 := n0_; clear n0_; have n0_ := Aside0.mk (blk_below HX2.out hb); clear HX2; have HX2 := n0_; clear n0_; have n0_ := Aside0.mk (Kd.C_below HR3.out hb); clear HR3; have HR3 := n0_; clear n0_; have n0_ := Aside0.mk (Kd.C_below HR4.out hb); clear HR4; have HR4 := n0_; clear n0_; have n0_ := Aside0.mk (blk_below HX4.out hb); clear HX4; have HX4 := n0_; clear n0_; have n0_ := Aside0.mk (Kd.C_below HR5.out hb); clear HR5; have HR5 := n0_; clear n0_; have n0_ := Aside0.mk (Kd.C_below HR6.out hb); clear HR6; have HR6 := n0_; clear n0_; have n0_ := Aside0.mk (blk_below HX6.out hb); clear HX6; have HX6 := n0_; clear n0_; have n0_ := Aside0.mk (Kd.C_below HR7.out hb); clear HR7; have HR7 := n0_; clear n0_; have n0_ := Aside0.mk (Kd.C_below HR8.out hb); clear HR8; have HR8 := n0_; clear n0_; have n0_ := Aside0.mk (blk_below HX8.out hb); clear HX8; have HX8 := n0_; clear n0_; clear hb hd_; clear q6_0 q6_1 q8_0 q8_1; have hx_ := HX6.out; have q6_0 : wy.cell? ⟨g6, 0, none⟩ = some (.slice B6 ls.length d6) := (cell_of hx_ 0).trans rfl; have q6_1 : wy.cell? ⟨g6, 1, none⟩ = some (.int .i64 es) := (cell_of hx_ 1).trans rfl; clear hx_; have hx_ := HX8.out; have q8_0 : wy.cell? ⟨g8, 0, none⟩ = some (.slice B8 lt.length d8) := (cell_of hx_ 0).trans rfl; have q8_1 : wy.cell? ⟨g8, 1, none⟩ = some (.int .i64 et) := (cell_of hx_ 1).trans rfl; clear hx_) | (go_at_call 49; (with_reducible refine (cosignerref12_SameLines.calls 50 _ _ _ _ _ _ true _ HR7.out hd7 HR8.out hd8 HT.out).mono ?_); rintro e wz ⟨rfl, hd_⟩; have hb := hd_.below; have n0_ := Aside0.mk (below_step HB.out hb); clear HB; have HB := n0_; clear n0_; have n0_ := Aside0.mk (Kd.C_below HC.out hb); clear HC; have HC := n0_; clear n0_; have n0_ := Aside0.mk (Kd.C_below HR1.out hb); clear HR1; have HR1 := n0_; clear n0_; have n0_ := Aside0.mk (Kd.C_below HR2.out hb); clear HR2; have HR2 := n0_; clear n0_; have n0_ := Aside0.mk (blk_below HX2.out hb); clear HX2; have HX2 := n0_; clear n0_; have n0_ := Aside0.mk (Kd.C_below HR3.out hb); clear HR3; have HR3 := n0_; clear n0_; have n0_ := Aside0.mk (Kd.C_below HR4.out hb); clear HR4; have HR4 := n0_; clear n0_; have n0_ := Aside0.mk (blk_below HX4.out hb); clear HX4; have HX4 := n0_; clear n0_; have n0_ := Aside0.mk (Kd.C_below HR5.out hb); clear HR5; have HR5 := n0_; clear n0_; have n0_ := Aside0.mk (Kd.C_below HR6.out hb); clear HR6; have HR6 := n0_; clear n0_; have n0_ := Aside0.mk (blk_below HX6.out hb); clear HX6; have HX6 := n0_; clear n0_; have n0_ := Aside0.mk (Kd.C_below HR7.out hb); clear HR7; have HR7 := n0_; clear n0_; have n0_ := Aside0.mk (Kd.C_below HR8.out hb); clear HR8; have HR8 := n0_; clear n0_; have n0_ := Aside0.mk (blk_below HX8.out hb); clear HX8; have HX8 := n0_; clear n0_; clear hb hd_; clear q6_0 q6_1 q8_0 q8_1; have hx_ := HX6.out; have q6_0 : wz.cell? ⟨g6, 0, none⟩ = some (.slice B6 ls.length d6) := (cell_of hx_ 0).trans rfl; have q6_1 : wz.cell? ⟨g6, 1, none⟩ = some (.int .i64 es) := (cell_of hx_ 1).trans rfl; clear hx_; have hx_ := HX8.out; have q8_0 : wz.cell? ⟨g8, 0, none⟩ = some (.slice B8 lt.length d8) := (cell_of hx_ 0).trans rfl; have q8_1 : wz.cell? ⟨g8, 1, none⟩ = some (.int .i64 et) := (cell_of hx_ 1).trans rfl; clear hx_))
 go_ret
 exact ⟨rfl, HB.out⟩
theorem chooses_walk (n : Int) (A : Option Addr) (c : Nat) (l : List S24) (k b : Int) (w : World) (hr : Kd.C k24 w A l.length l) (hc : l.length ≤ c) :
 Calls Try.prog 11 #[.int .i64 n, .slice A l.length c, .int .i64 k, .int .i64 b] w fun e w' => e = .returned (.bool true) ∧ Below w.heap.size w w' := by
 by_cases h60 : (l.length : Int) ≤ 60
 · exact chooses_main n A c l k b w hr hc h60
 · exact chooses_short n A c l k b w hr hc h60
end Go.Proofs.Ytmoiickbgokloaa.PA
