/- Contracts by hand: the specification's Shifted and Turned. -/
import Derived.StillTailTactics
import Derived.BigRegion
import Derived.Deep.RegionHeld3
import Derived.Test.YtmoiickbgokloaaKSh
import Derived.Test.YtmoiickbgokloaaKCX0
import Derived.Test.YtmoiickbgokloaaKLUx0
namespace Go.Proofs.Ytmoiickbgokloaa.PA
open Go.RowKit Go.Deep Go.Proofs.YtmoiickbgokloaaW.PrintWords Go.Proofs.YtmoiickbgokloaaW.PrintLast Go.Proofs.YtmoiickbgokloaaW.PrintMore Go.Proofs.Ytmoiickbgokloaa.Utv
set_option linter.unusedVariables false
set_option linter.unusedSimpArgs false
theorem res80 {W : World} {R : Nat} (h : W.heap[R]? = some (.cells #[.slice none 0 0, .int .i64 0] 80 (0, 0))) (v e : Value) :
 ((W.setCell ⟨R, 0, none⟩ v).setCell ⟨R, 1, none⟩ e).heap[R]? = some (.cells #[v, e] 80 (0, 0)) := by
 refine blk_put (cs := #[v, .int .i64 0]) ?_ 1 _ rfl
 exact blk_put (cs := #[.slice none 0 0, .int .i64 0]) h 0 _ rfl
theorem info80 : (Try.prog.info? 80).map (·.size) = some 2 := by kernel_rfl
theorem keep80 {W : World} {base R : Nat} {v : Value} {xs : List S24} (h : W.heap[R]? = some (.cells #[.slice none 0 0, .int .i64 0] 80 (0, 0))) (ho : Kd.R k24 24 W base (fun _ => True) v xs) (x e : Value) :
 Kd.R k24 24 ((W.setCell ⟨R, 0, none⟩ x).setCell ⟨R, 1, none⟩ e) base (fun _ => True) v xs := by
 have h1 := Kd.R_types ho h (by decide)
 exact Kd.R_mono (Kd.R_far (Kd.R_far h1 (p := ⟨R, 0, none⟩) (fun _ hk => hk.2) _) (p := ⟨R, 1, none⟩) (fun _ hk => hk.2) _) (fun _ hk => hk.1)
theorem changed_bad {n : Nat} {φ : S24 → S24} {l : List S24} {i : Nat} (hi : i < l.length) (h : rightB n (φ (rd_T24 l (i : Nat))) = false) : changedG n φ l = ([], 1) := by
 unfold changedG
 rw [if_neg]
 intro ha
 have := List.all_eq_true.1 ha (φ (rd_T24 l (i : Nat))) (List.mem_map.2 ⟨_, by unfold rd_T24; rw [Int.toNat_natCast, List.getD_eq_getElem?_getD, List.getElem?_eq_getElem hi]; exact List.getElem_mem _, rfl⟩)
 rw [h] at this; cases this
theorem changed_good {n : Nat} {φ : S24 → S24} {l : List S24} (h : ∀ j : Nat, j < l.length → rightB n (φ (rd_T24 l (j : Nat))) = true) : changedG n φ l = (l.map φ, 0) := by
 unfold changedG
 rw [if_pos]
 rw [List.all_eq_true]
 intro y hy
 obtain ⟨x, hx, rfl⟩ := List.mem_map.1 hy
 obtain ⟨j, hj, rfl⟩ := List.getElem_of_mem hx
 have := h j hj
 unfold rd_T24 at this
 rwa [Int.toNat_natCast, List.getD_eq_getElem?_getD, List.getElem?_eq_getElem hj] at this
theorem take_succ_map {φ : S24 → S24} {l : List S24} {i : Nat} (hi : i < l.length) : (l.take i).map φ ++ [φ (rd_T24 l (i : Nat))] = (l.take (i + 1)).map φ := by
 unfold rd_T24
 rw [Int.toNat_natCast, List.getD_eq_getElem?_getD, List.getElem?_eq_getElem hi, ← List.take_append_getElem hi, List.map_append]; rfl
/-- The sign of a number in a line. -/
def sgn (x : S24) (k : Int) : Int := if x.f0 = k then x.f1 else if x.f3 = 0 then 0 else if x.f2 = k then x.f3 else 0
theorem sign_f (x : S24) (k : Int) : cosignerref12_sign.f x.f0 x.f1 x.f2 x.f3 x.f4 k = some (sgn x k) := by
 unfold cosignerref12_sign.f sgn
 split
 · rfl
 · split
   · rfl
   · split <;> rfl
theorem shift_sgn {n : Int} {x : S24} (r : Rn n x) (k b : Int) (hb : -1000000 ≤ b ∧ b ≤ 1000000) : wrap64 (x.f4 + wrap64 (b * sgn x k)) = (shiftS k b x).f4 := by
 have n0 := r.n0; have n1 := r.n1
 have hs : b * sgn x k = (if x.f0 = k then x.f1 * b else 0) + (if x.f2 = k then x.f3 * b else 0) ∧ -1000000 ≤ b * sgn x k ∧ b * sgn x k ≤ 1000000 := by
  unfold sgn
  rcases r.q with ⟨q3, q2⟩ | ⟨q3, _, _, q4⟩
  · rw [q3]
    by_cases h0 : x.f0 = k
    · rw [if_pos h0, if_pos h0]
      rcases r.p with p | p <;> rw [p] <;> (split <;> omega)
    · rw [if_neg h0, if_neg h0, if_pos rfl]
      split <;> omega
  · by_cases h0 : x.f0 = k
    · rw [if_pos h0, if_pos h0, if_neg (by omega)]
      rcases r.p with p | p <;> rw [p] <;> omega
    · rw [if_neg h0, if_neg h0, if_neg (by omega)]
      by_cases h2 : x.f2 = k
      · rw [if_pos h2, if_pos h2]
        rcases q3 with p | p <;> rw [p] <;> omega
      · rw [if_neg h2, if_neg h2]; omega
 have e : (shiftS k b x).f4 = x.f4 + (if x.f0 = k then x.f1 * b else 0) + (if x.f2 = k then x.f3 * b else 0) := rfl
 rw [e, show wrap64 (b * sgn x k) = b * sgn x k from by unfold wrap64; omega]
 have := hs.1
 unfold wrap64; omega
set_option maxRecDepth 100000 in
set_option maxHeartbeats 1000000 in
theorem rshift_err (n : Int) (A : Option Addr) (c : Nat) (l : List S24) (k b : Int) (w : World) (hr : Kd.C k24 w A l.length l) (hc : l.length ≤ c) (hk : checkE n l ≠ 0) :
 Calls Try.prog 45 #[.int .i64 n, .slice A l.length c, .int .i64 k, .int .i64 b] w fun e w' => e = .returned (.agg #[.slice none 0 0, .int .i64 (checkE n l)]) ∧ Below w.heap.size w w' := by
 have hu80 := Try.underlying80
 have hu24 := Try.underlying24
 have hb0 := (Below.refl _ w).alloc (Nat.le_refl _) (.cells #[.slice none 0 0, .int .i64 0] 80)
 have HC := Aside0.mk (Kd.C_below hr hb0)
 have HB := Aside0.mk hb0
 have HX := Aside0.mk (heap1_0 w (.cells #[.slice none 0 0, .int .i64 0] 80))
 have HCC : Aside0 (∀ W, Kd.C k24 W A l.length l → Calls Try.prog 32 #[.int .i64 n, .slice A l.length c] W fun e w' => e = .returned (.int .i64 (checkE n l)) ∧ Below W.heap.size W w') := ⟨fun W h => cosignerref12_Check.calls 80 n A c l _ W h hc (rf_check n l 80 (by omega))⟩
 clear hr hb0
 have hcb : (checkE n l != 0) = true := by rw [bne_iff_ne]; exact hk
 generalize checkE n l = er at *
 clear hk
 go_enter Try.func45, Try.ntmps45
 go_upto_region 1 with (fail)
 generalize (w.alloc (.cells #[.slice none 0 0, .int .i64 0] 80)) = w0 at *
 go_upto_region 3 with (first | (go_at_call 32; refine (HCC.out _ HC.out).mono ?_; rintro e w1 ⟨rfl, hb⟩; have HC1 := Aside0.mk (Kd.C_below HC.out hb); have HB1 := Aside0.mk (below_step HB.out hb); have HX1 := Aside0.mk (blk_below HX.out hb); clear hb))
 have hx := HX1.out
 have z0 : w1.cell? ⟨w.heap.size, 0, none⟩ = some (.slice none 0 0) := (cell_of hx 0).trans rfl
 have z1 : w1.cell? ⟨w.heap.size, 1, none⟩ = some (.int .i64 0) := (cell_of hx 1).trans rfl
 have fz0 : w1.frozen? ⟨w.heap.size, 0, none⟩ = false := blk_frozen hx 0
 have fz1 : w1.frozen? ⟨w.heap.size, 1, none⟩ = false := blk_frozen hx 1
 clear hx
 go_wp2_with fail
 refine bodyPost_ret (results_cell_row rfl _ _ w.heap.size 80 #[.slice none 0 0, .int .i64 er] (0, 0) _ rfl (res80 HX1.out _ _) Try.underlying80 rfl info80) rfl ?_
 exact ⟨rfl, (HB1.out.setCell (Nat.le_refl _) _).setCell (Nat.le_refl _) _⟩
set_option maxRecDepth 100000 in
set_option maxHeartbeats 1000000 in
theorem rturn_err (n : Int) (A : Option Addr) (c : Nat) (l : List S24) (k : Int) (w : World) (hr : Kd.C k24 w A l.length l) (hc : l.length ≤ c) (hk : checkE n l ≠ 0) :
 Calls Try.prog 47 #[.int .i64 n, .slice A l.length c, .int .i64 k] w fun e w' => e = .returned (.agg #[.slice none 0 0, .int .i64 (checkE n l)]) ∧ Below w.heap.size w w' := by
 have hu80 := Try.underlying80
 have hu24 := Try.underlying24
 have hb0 := (Below.refl _ w).alloc (Nat.le_refl _) (.cells #[.slice none 0 0, .int .i64 0] 80)
 have HC := Aside0.mk (Kd.C_below hr hb0)
 have HB := Aside0.mk hb0
 have HX := Aside0.mk (heap1_0 w (.cells #[.slice none 0 0, .int .i64 0] 80))
 have HCC : Aside0 (∀ W, Kd.C k24 W A l.length l → Calls Try.prog 32 #[.int .i64 n, .slice A l.length c] W fun e w' => e = .returned (.int .i64 (checkE n l)) ∧ Below W.heap.size W w') := ⟨fun W h => cosignerref12_Check.calls 80 n A c l _ W h hc (rf_check n l 80 (by omega))⟩
 clear hr hb0
 have hcb : (checkE n l != 0) = true := by rw [bne_iff_ne]; exact hk
 generalize checkE n l = er at *
 clear hk
 go_enter Try.func47, Try.ntmps47
 go_upto_region 1 with (fail)
 generalize (w.alloc (.cells #[.slice none 0 0, .int .i64 0] 80)) = w0 at *
 go_upto_region 3 with (first | (go_at_call 32; refine (HCC.out _ HC.out).mono ?_; rintro e w1 ⟨rfl, hb⟩; have HC1 := Aside0.mk (Kd.C_below HC.out hb); have HB1 := Aside0.mk (below_step HB.out hb); have HX1 := Aside0.mk (blk_below HX.out hb); clear hb))
 have hx := HX1.out
 have z0 : w1.cell? ⟨w.heap.size, 0, none⟩ = some (.slice none 0 0) := (cell_of hx 0).trans rfl
 have z1 : w1.cell? ⟨w.heap.size, 1, none⟩ = some (.int .i64 0) := (cell_of hx 1).trans rfl
 have fz0 : w1.frozen? ⟨w.heap.size, 0, none⟩ = false := blk_frozen hx 0
 have fz1 : w1.frozen? ⟨w.heap.size, 1, none⟩ = false := blk_frozen hx 1
 clear hx
 go_wp2_with fail
 refine bodyPost_ret (results_cell_row rfl _ _ w.heap.size 80 #[.slice none 0 0, .int .i64 er] (0, 0) _ rfl (res80 HX1.out _ _) Try.underlying80 rfl info80) rfl ?_
 exact ⟨rfl, (HB1.out.setCell (Nat.le_refl _) _).setCell (Nat.le_refl _) _⟩
set_option maxRecDepth 100000 in
set_option maxHeartbeats 1000000 in
theorem rshift_out (n : Int) (A : Option Addr) (c : Nat) (l : List S24) (k b : Int) (w : World) (hr : Kd.C k24 w A l.length l) (hc : l.length ≤ c) (hk : checkE n l = 0) (q1 q2 : Bool) (e1 : (decide (0 ≤ k) && decide (k ≤ n - 1)) = q1) (e2 : (decide (-1000000 ≤ b) && decide (b ≤ 1000000)) = q2) (hq : (q1 && q2) = false) :
 Calls Try.prog 45 #[.int .i64 n, .slice A l.length c, .int .i64 k, .int .i64 b] w fun e w' => e = .returned (.agg #[.slice none 0 0, .int .i64 1]) ∧ Below w.heap.size w w' := by
 have hu80 := Try.underlying80
 have hu24 := Try.underlying24
 have hb0 := (Below.refl _ w).alloc (Nat.le_refl _) (.cells #[.slice none 0 0, .int .i64 0] 80)
 have HC := Aside0.mk (Kd.C_below hr hb0)
 have HB := Aside0.mk hb0
 have HX := Aside0.mk (heap1_0 w (.cells #[.slice none 0 0, .int .i64 0] 80))
 have HCC : Aside0 (∀ W, Kd.C k24 W A l.length l → Calls Try.prog 32 #[.int .i64 n, .slice A l.length c] W fun e w' => e = .returned (.int .i64 (checkE n l)) ∧ Below W.heap.size W w') := ⟨fun W h => cosignerref12_Check.calls 80 n A c l _ W h hc (rf_check n l 80 (by omega))⟩
 clear hr hb0
 obtain ⟨h1, h2, h3, h4⟩ := check_ok hk
 clear h4
 rw [hk] at HCC
 have hwn : IntKind.i64.wrap (n - 1) = n - 1 := (i64_w _).trans (by unfold wrap64; omega)
 have hin1 := in_f k 0 (n - 1)
 have hin2 := in_f b (-1000000) 1000000
 rw [e1] at hin1
 rw [e2] at hin2
 clear e1 e2
 go_enter Try.func45, Try.ntmps45
 go_upto_region 1 with (fail)
 generalize (w.alloc (.cells #[.slice none 0 0, .int .i64 0] 80)) = w0 at *
 go_upto_region 6 with (first | (go_at_call 32; refine (HCC.out _ HC.out).mono ?_; rintro e w1 ⟨rfl, hb⟩; have HC1 := Aside0.mk (Kd.C_below HC.out hb); have HB1 := Aside0.mk (below_step HB.out hb); have HX1 := Aside0.mk (blk_below HX.out hb); clear hb) | (go_at_call 64; (first | (with_reducible refine (cosignerref12_in.calls _ _ _ _ _ hin1).mono ?_) | (with_reducible refine (cosignerref12_in.calls _ _ _ _ _ hin2).mono ?_)); rintro e wi ⟨rfl, hb⟩; have n0_ := Aside0.mk (Kd.C_below HC1.out hb.below); clear HC1; have HC1 := n0_; clear n0_; have n0_ := Aside0.mk (below_step HB1.out hb.below); clear HB1; have HB1 := n0_; clear n0_; have n0_ := Aside0.mk (blk_below HX1.out hb.below); clear HX1; have HX1 := n0_; clear n0_; clear hb))
 cases q1
 · cases q2
   · have hx := HX1.out
     have z0 : wi.cell? ⟨w.heap.size, 0, none⟩ = some (.slice none 0 0) := (cell_of hx 0).trans rfl
     have z1 : wi.cell? ⟨w.heap.size, 1, none⟩ = some (.int .i64 0) := (cell_of hx 1).trans rfl
     have fz0 : wi.frozen? ⟨w.heap.size, 0, none⟩ = false := blk_frozen hx 0
     have fz1 : wi.frozen? ⟨w.heap.size, 1, none⟩ = false := blk_frozen hx 1
     clear hx
     go_wp2_with fail
     refine bodyPost_ret (results_cell_row rfl _ _ w.heap.size 80 #[.slice none 0 0, .int .i64 1] (0, 0) _ rfl (res80 HX1.out _ _) Try.underlying80 rfl info80) rfl ?_
     exact ⟨rfl, (HB1.out.setCell (Nat.le_refl _) _).setCell (Nat.le_refl _) _⟩
   · have hx := HX1.out
     have z0 : wi.cell? ⟨w.heap.size, 0, none⟩ = some (.slice none 0 0) := (cell_of hx 0).trans rfl
     have z1 : wi.cell? ⟨w.heap.size, 1, none⟩ = some (.int .i64 0) := (cell_of hx 1).trans rfl
     have fz0 : wi.frozen? ⟨w.heap.size, 0, none⟩ = false := blk_frozen hx 0
     have fz1 : wi.frozen? ⟨w.heap.size, 1, none⟩ = false := blk_frozen hx 1
     clear hx
     go_wp2_with fail
     refine bodyPost_ret (results_cell_row rfl _ _ w.heap.size 80 #[.slice none 0 0, .int .i64 1] (0, 0) _ rfl (res80 HX1.out _ _) Try.underlying80 rfl info80) rfl ?_
     exact ⟨rfl, (HB1.out.setCell (Nat.le_refl _) _).setCell (Nat.le_refl _) _⟩
 · cases q2
   · have hx := HX1.out
     have z0 : wi.cell? ⟨w.heap.size, 0, none⟩ = some (.slice none 0 0) := (cell_of hx 0).trans rfl
     have z1 : wi.cell? ⟨w.heap.size, 1, none⟩ = some (.int .i64 0) := (cell_of hx 1).trans rfl
     have fz0 : wi.frozen? ⟨w.heap.size, 0, none⟩ = false := blk_frozen hx 0
     have fz1 : wi.frozen? ⟨w.heap.size, 1, none⟩ = false := blk_frozen hx 1
     clear hx
     go_wp2_with fail
     refine bodyPost_ret (results_cell_row rfl _ _ w.heap.size 80 #[.slice none 0 0, .int .i64 1] (0, 0) _ rfl (res80 HX1.out _ _) Try.underlying80 rfl info80) rfl ?_
     exact ⟨rfl, (HB1.out.setCell (Nat.le_refl _) _).setCell (Nat.le_refl _) _⟩
   · cases hq
set_option maxRecDepth 100000 in
set_option maxHeartbeats 1000000 in
theorem rturn_out (n : Int) (A : Option Addr) (c : Nat) (l : List S24) (k : Int) (w : World) (hr : Kd.C k24 w A l.length l) (hc : l.length ≤ c) (hk : checkE n l = 0) (e1 : (decide (0 ≤ k) && decide (k ≤ n - 1)) = false) :
 Calls Try.prog 47 #[.int .i64 n, .slice A l.length c, .int .i64 k] w fun e w' => e = .returned (.agg #[.slice none 0 0, .int .i64 1]) ∧ Below w.heap.size w w' := by
 have hu80 := Try.underlying80
 have hu24 := Try.underlying24
 have hb0 := (Below.refl _ w).alloc (Nat.le_refl _) (.cells #[.slice none 0 0, .int .i64 0] 80)
 have HC := Aside0.mk (Kd.C_below hr hb0)
 have HB := Aside0.mk hb0
 have HX := Aside0.mk (heap1_0 w (.cells #[.slice none 0 0, .int .i64 0] 80))
 have HCC : Aside0 (∀ W, Kd.C k24 W A l.length l → Calls Try.prog 32 #[.int .i64 n, .slice A l.length c] W fun e w' => e = .returned (.int .i64 (checkE n l)) ∧ Below W.heap.size W w') := ⟨fun W h => cosignerref12_Check.calls 80 n A c l _ W h hc (rf_check n l 80 (by omega))⟩
 clear hr hb0
 obtain ⟨h1, h2, h3, h4⟩ := check_ok hk
 clear h4
 rw [hk] at HCC
 have hwn : IntKind.i64.wrap (n - 1) = n - 1 := (i64_w _).trans (by unfold wrap64; omega)
 have hin1 := in_f k 0 (n - 1)
 rw [e1] at hin1
 clear e1
 go_enter Try.func47, Try.ntmps47
 go_upto_region 1 with (fail)
 generalize (w.alloc (.cells #[.slice none 0 0, .int .i64 0] 80)) = w0 at *
 go_upto_region 5 with (first | (go_at_call 32; refine (HCC.out _ HC.out).mono ?_; rintro e w1 ⟨rfl, hb⟩; have HC1 := Aside0.mk (Kd.C_below HC.out hb); have HB1 := Aside0.mk (below_step HB.out hb); have HX1 := Aside0.mk (blk_below HX.out hb); clear hb) | (go_at_call 64; (first | (with_reducible refine (cosignerref12_in.calls _ _ _ _ _ hin1).mono ?_)); rintro e wi ⟨rfl, hb⟩; have n0_ := Aside0.mk (Kd.C_below HC1.out hb.below); clear HC1; have HC1 := n0_; clear n0_; have n0_ := Aside0.mk (below_step HB1.out hb.below); clear HB1; have HB1 := n0_; clear n0_; have n0_ := Aside0.mk (blk_below HX1.out hb.below); clear HX1; have HX1 := n0_; clear n0_; clear hb))
 have hx := HX1.out
 have z0 : wi.cell? ⟨w.heap.size, 0, none⟩ = some (.slice none 0 0) := (cell_of hx 0).trans rfl
 have z1 : wi.cell? ⟨w.heap.size, 1, none⟩ = some (.int .i64 0) := (cell_of hx 1).trans rfl
 have fz0 : wi.frozen? ⟨w.heap.size, 0, none⟩ = false := blk_frozen hx 0
 have fz1 : wi.frozen? ⟨w.heap.size, 1, none⟩ = false := blk_frozen hx 1
 clear hx
 go_wp2_with fail
 refine bodyPost_ret (results_cell_row rfl _ _ w.heap.size 80 #[.slice none 0 0, .int .i64 1] (0, 0) _ rfl (res80 HX1.out _ _) Try.underlying80 rfl info80) rfl ?_
 exact ⟨rfl, (HB1.out.setCell (Nat.le_refl _) _).setCell (Nat.le_refl _) _⟩
set_option maxRecDepth 100000 in
set_option maxHeartbeats 4000000 in
theorem rshift_main (n : Nat) (A : Option Addr) (c : Nat) (l : List S24) (k b : Int) (w : World) (hr : Kd.C k24 w A l.length l) (hc : l.length ≤ c) (hk : checkE n l = 0) (hk0 : 0 ≤ k) (hkn : k < n) (hbb : -1000000 ≤ b ∧ b ≤ 1000000) :
 Calls Try.prog 45 #[.int .i64 (n : Nat), .slice A l.length c, .int .i64 k, .int .i64 b] w fun e w' => ∃ v, e = .returned (.agg #[v, .int .i64 (changedG n (shiftS k b) l).2]) ∧ Kd.R k24 24 w' w.heap.size (fun _ => True) v (changedG n (shiftS k b) l).1 ∧ Below w.heap.size w w' := by
 obtain ⟨h1, h2, h3, h4⟩ := check_ok hk
 have HR4 := Aside0.mk h4
 have HCW := Aside0.mk hr
 clear h4
 have hu80 := Try.underlying80
 have hu24 := Try.underlying24
 have hb0 := (Below.refl _ w).alloc (Nat.le_refl _) (.cells #[.slice none 0 0, .int .i64 0] 80)
 have HC := Aside0.mk (Kd.C_below hr hb0)
 have HB := Aside0.mk hb0
 have HX := Aside0.mk (heap1_0 w (.cells #[.slice none 0 0, .int .i64 0] 80))
 have HCC : Aside0 (∀ W, Kd.C k24 W A l.length l → Calls Try.prog 32 #[.int .i64 n, .slice A l.length c] W fun e w' => e = .returned (.int .i64 (checkE n l)) ∧ Below W.heap.size W w') := ⟨fun W h => cosignerref12_Check.calls 80 n A c l _ W h hc (rf_check n l 80 (by omega))⟩
 clear hr hb0
 rw [hk] at HCC
 have hwn : IntKind.i64.wrap ((n : Nat) - 1) = ((n : Nat) : Int) - 1 := (i64_w _).trans (by unfold wrap64; omega)
 have hin1 := in_f k 0 (((n : Nat) : Int) - 1)
 have hin2 := in_f b (-1000000) 1000000
 rw [decide_eq_true hk0, decide_eq_true (show k ≤ ((n : Nat) : Int) - 1 by omega)] at hin1
 rw [decide_eq_true hbb.1, decide_eq_true hbb.2] at hin2
 simp only [Bool.and_self] at hin1 hin2
 go_enter Try.func45, Try.ntmps45
 go_upto_region 1 with (fail)
 generalize (w.alloc (.cells #[.slice none 0 0, .int .i64 0] 80)) = w0 at *
 go_upto_region 10 with (first | (go_at_call 32; refine (HCC.out _ HC.out).mono ?_; rintro e w1 ⟨rfl, hb⟩; have HC1 := Aside0.mk (Kd.C_below HC.out hb); have HB1 := Aside0.mk (below_step HB.out hb); have HX1 := Aside0.mk (blk_below HX.out hb); clear hb) | (go_at_call 64; (first | (with_reducible refine (cosignerref12_in.calls _ _ _ _ _ hin1).mono ?_) | (with_reducible refine (cosignerref12_in.calls _ _ _ _ _ hin2).mono ?_)); rintro e wi ⟨rfl, hb⟩; have n0_ := Aside0.mk (Kd.C_below HC1.out hb.below); clear HC1; have HC1 := n0_; clear n0_; have n0_ := Aside0.mk (below_step HB1.out hb.below); clear HB1; have HB1 := n0_; clear n0_; have n0_ := Aside0.mk (blk_below HX1.out hb.below); clear HX1; have HX1 := n0_; clear n0_; clear hb))
 go_loopw [12, 13] (fun va vi wr => ∃ (i : Nat) (A6 : Option Addr) (c6 : Nat), vi = .int .i64 (i : Nat) ∧ va = .slice A6 ((l.take i).map (shiftS k b)).length c6 ∧ i ≤ l.length ∧ Aside0 (∀ j : Nat, j < i → rightB n (shiftS k b (rd_T24 l (j : Nat))) = true) ∧ Aside0 (Kd.R k24 24 wr w.heap.size (fun _ => True) (.slice A6 ((l.take i).map (shiftS k b)).length c6) ((l.take i).map (shiftS k b))) ∧ Aside0 (wr.heap[w.heap.size]? = some (.cells #[.slice none 0 0, .int .i64 0] 80 (0, 0))) ∧ Aside0 (Below w.heap.size w wr)) (fun _ vi _ => l.length - (intOf vi).toNat)
 case atStart => exact ⟨0, none, 0, rfl, rfl, by omega, ⟨fun j hj => by omega⟩, ⟨Kd.R_nil _ _ _ _ _⟩, HX1, HB1⟩
 case round =>
 clear HX1 HC1 HB1
 obtain ⟨i, A6, c6, rfl, rfl, hi, HA, HO, HX, HB⟩ := hrel
 have HC := Aside0.mk (Kd.C_below HCW.out HB.out)
 by_cases hil : i < l.length
 · have hid : decide (((i : Nat) : Int) < (l.length : Int)) = true := decide_eq_true (by omega)
   obtain ⟨ads, eds, hx0, hx1, hx2, hx3, hx4⟩ := at_T24 HC.out (i : Nat) (by omega) (by omega)
   cases eds
   rw [Int.toNat_natCast] at hx0 hx1 hx2 hx3 hx4
   have hsyl : rd_T24 l (i : Nat) ∈ l := by
    unfold rd_T24
    rw [Int.toNat_natCast, List.getD_eq_getElem?_getD, List.getElem?_eq_getElem hil]
    exact List.getElem_mem _
   have r := HR4.out _ hsyl
   have hnext := take_succ_map (φ := shiftS k b) hil
   have hbad := changed_bad (n := n) (φ := shiftS k b) hil
   have hlt : ((l.take i).map (shiftS k b)).length = i := by rw [List.length_map, List.length_take]; omega
   have HAN : Aside0 (rightB n (shiftS k b (rd_T24 l (i : Nat))) = true → ∀ j : Nat, j < i + 1 → rightB n (shiftS k b (rd_T24 l (j : Nat))) = true) := ⟨fun h j hj => by
    by_cases e : j = i
    · subst e; exact h
    · exact HA.out j (by omega)⟩
   obtain ⟨out, hout⟩ : ∃ out, out = (l.take i).map (shiftS k b) := ⟨_, rfl⟩
   obtain ⟨nxt, hnxt⟩ : ∃ nxt, nxt = (l.take (i + 1)).map (shiftS k b) := ⟨_, rfl⟩
   have HNXT := Aside0.mk hnxt
   rw [← hout] at hnext hlt HO ⊢
   have HLT := Aside0.mk hlt
   clear hlt
   rw [← hnxt] at hnext
   generalize rd_T24 l (i : Nat) = sy at *
   clear hsyl hout hnxt
   go_upto_region 13 with (fail)
   have hb1 := (Below.refl _ wr).alloc (Nat.le_refl _) (.cells #[.int .i64 sy.f0, .int .i64 sy.f1, .int .i64 sy.f2, .int .i64 sy.f3, .int .i64 sy.f4] 24)
   have HGB := Aside0.mk (heap1_0 wr (.cells #[.int .i64 sy.f0, .int .i64 sy.f1, .int .i64 sy.f2, .int .i64 sy.f3, .int .i64 sy.f4] 24))
   have HBW := Aside0.mk hb1
   clear hb1
   generalize (wr.alloc (.cells #[.int .i64 sy.f0, .int .i64 sy.f1, .int .i64 sy.f2, .int .i64 sy.f3, .int .i64 sy.f4] 24)) = wv at *
   have hx_ := HGB.out
   have j0 : wv.cell? ⟨wr.heap.size, 0, none⟩ = some (.int .i64 sy.f0) := (cell_of hx_ 0).trans rfl
   have j1 : wv.cell? ⟨wr.heap.size, 1, none⟩ = some (.int .i64 sy.f1) := (cell_of hx_ 1).trans rfl
   have j2 : wv.cell? ⟨wr.heap.size, 2, none⟩ = some (.int .i64 sy.f2) := (cell_of hx_ 2).trans rfl
   have j3 : wv.cell? ⟨wr.heap.size, 3, none⟩ = some (.int .i64 sy.f3) := (cell_of hx_ 3).trans rfl
   have j4 : wv.cell? ⟨wr.heap.size, 4, none⟩ = some (.int .i64 sy.f4) := (cell_of hx_ 4).trans rfl
   have fj0 : wv.frozen? ⟨wr.heap.size, 0, none⟩ = false := blk_frozen hx_ 0
   have fj1 : wv.frozen? ⟨wr.heap.size, 1, none⟩ = false := blk_frozen hx_ 1
   have fj2 : wv.frozen? ⟨wr.heap.size, 2, none⟩ = false := blk_frozen hx_ 2
   have fj3 : wv.frozen? ⟨wr.heap.size, 3, none⟩ = false := blk_frozen hx_ 3
   have fj4 : wv.frozen? ⟨wr.heap.size, 4, none⟩ = false := blk_frozen hx_ 4
   clear hx_
   have hsg := sign_f sy k
   have hsh := shift_sgn r k b hbb
   have HSH := Aside0.mk hsh
   have hye : shiftS k b sy = ⟨sy.f0, sy.f1, sy.f2, sy.f3, (shiftS k b sy).f4⟩ := rfl
   generalize hY : (shiftS k b sy).f4 = y4 at *
   clear hY hsh r
   generalize sgn sy k = sg at *
   have HYE := Aside0.mk hye
   clear hye
   have HGD := Aside0.mk (blk_drew HGB.out)
   refine start_ (n := 10) (S := fun w' => w'.cell? ⟨wr.heap.size, 0, none⟩ = some (.int .i64 sy.f0) ∧ w'.cell? ⟨wr.heap.size, 1, none⟩ = some (.int .i64 sy.f1) ∧ w'.cell? ⟨wr.heap.size, 2, none⟩ = some (.int .i64 sy.f2) ∧ w'.cell? ⟨wr.heap.size, 3, none⟩ = some (.int .i64 sy.f3) ∧ w'.cell? ⟨wr.heap.size, 4, none⟩ = some (.int .i64 sy.f4) ∧ w'.frozen? ⟨wr.heap.size, 4, none⟩ = false) (ds := [9]) #[ff,ff,ff,ff,ff,ff,ff,ff,ff,ff] (by kernel_rfl) rfl rfl ⟨j0, j1, j2, j3, j4, fj4⟩ (fun hHeld => ?_)
   refine pure_ (i := 0) (N := some 46) (v := ?_) (a' := ?_) #[tt,ff,ff,ff,ff,ff,ff,ff,ff,ff] rfl rfl (by kernel_rfl) (fun _ _ _ h => h) (Or.inl ⟨by rfl, ?_⟩) ?_ ?_
   rotate_left
   · intro w'
     go_simp
     with_reducible rfl
   rotate_left
   · simp only [Act.put, List.setIfInBounds_toArray, List.set_cons_zero, List.set_cons_succ, i64_w, i32_w]
     rfl
   refine pure_ (i := 2) (N := some 48) (v := ?_) (a' := ?_) #[tt,ff,tt,ff,ff,ff,ff,ff,ff,ff] rfl rfl (by kernel_rfl) (fun _ _ _ h => h) (Or.inl ⟨by rfl, ?_⟩) ?_ ?_
   rotate_left
   · intro w'
     go_simp
     with_reducible rfl
   rotate_left
   · simp only [Act.put, List.setIfInBounds_toArray, List.set_cons_zero, List.set_cons_succ, i64_w, i32_w]
     rfl
   refine pure_ (i := 4) (N := some 50) (v := ?_) (a' := ?_) #[tt,ff,tt,ff,tt,ff,ff,ff,ff,ff] rfl rfl (by kernel_rfl) (fun _ _ _ h => h) (Or.inl ⟨by rfl, ?_⟩) ?_ ?_
   rotate_left
   · intro w'
     go_simp
     with_reducible rfl
   rotate_left
   · simp only [Act.put, List.setIfInBounds_toArray, List.set_cons_zero, List.set_cons_succ, i64_w, i32_w]
     rfl
   refine take_ (i := 1) (N := some 47) (v := ?_) (a' := ?_) #[tt,tt,tt,ff,tt,ff,ff,ff,ff,ff] rfl rfl (by kernel_rfl) (fun _ _ _ h => h) (Or.inl ⟨by rfl, ?_⟩) hHeld ?_ ?_
   rotate_left
   · rintro w' ⟨s0, s1, s2, s3, s4, s5⟩
     go_simp
     with_reducible rfl
   rotate_left
   · simp only [Act.put, List.setIfInBounds_toArray, List.set_cons_zero, List.set_cons_succ, i64_w, i32_w]
     rfl
   refine take_ (i := 3) (N := some 49) (v := ?_) (a' := ?_) #[tt,tt,tt,tt,tt,ff,ff,ff,ff,ff] rfl rfl (by kernel_rfl) (fun _ _ _ h => h) (Or.inl ⟨by rfl, ?_⟩) hHeld ?_ ?_
   rotate_left
   · rintro w' ⟨s0, s1, s2, s3, s4, s5⟩
     go_simp
     with_reducible rfl
   rotate_left
   · simp only [Act.put, List.setIfInBounds_toArray, List.set_cons_zero, List.set_cons_succ, i64_w, i32_w]
     rfl
   refine one_ (i := 5) (N := some 51) #[tt,tt,tt,tt,tt,tt,ff,ff,ff,ff] rfl rfl (by kernel_rfl) (by decide) (fun K hK => ?_)
   refine goes_ Try.func88 (by kernel_rfl) rfl #[.agg #[.int .i64 sy.f0, .int .i64 sy.f1, .int .i64 sy.f2, .int .i64 sy.f3, .int .i64 sy.f4], .int .i64 k] (by rfl) rfl rfl (by simp only [List.map_toArray, List.map_cons, List.map_nil]; rfl) ?_
   with_reducible refine (cosignerref12_sign.calls sy.f0 sy.f1 sy.f2 sy.f3 sy.f4 k sg _ hsg).mono ?_
   rintro e w6 ⟨rfl, hb⟩
   have HGC := Aside0.mk (blk_below HGD.out hb)
   have HBX := Aside0.mk (below_step HBW.out (below_step ((Below.refl wv.heap.size wv).drew) hb))
   refine ⟨_, rfl, ?_⟩
   refine hK.out _ _ ⟨(pw_cell_below hb hHeld.1), (pw_cell_below hb hHeld.2.1), (pw_cell_below hb hHeld.2.2.1), (pw_cell_below hb hHeld.2.2.2.1), (pw_cell_below hb hHeld.2.2.2.2.1), (blk_frozen (blk_below HGD.out hb) 4)⟩ (fun hHeld => ?_)
   clear hK K
   refine norm_ (a' := ?_) ?_ ?_
   rotate_left
   · show Act.put _ (some 51) _ = _
     simp only [Act.put, List.setIfInBounds_toArray, List.set_cons_zero, List.set_cons_succ, i64_w, i32_w]
     rfl
   refine pure_ (i := 6) (N := some 52) (v := ?_) (a' := ?_) #[tt,tt,tt,tt,tt,tt,tt,ff,ff,ff] rfl rfl (by kernel_rfl) (fun _ _ _ h => h) (Or.inl ⟨by rfl, ?_⟩) ?_ ?_
   rotate_left
   · intro w'
     go_simp
     with_reducible rfl
   rotate_left
   · simp only [Act.put, List.setIfInBounds_toArray, List.set_cons_zero, List.set_cons_succ, i64_w, i32_w]
     rfl
   refine pure_ (i := 7) (N := some 53) (v := ?_) (a' := ?_) #[tt,tt,tt,tt,tt,tt,tt,tt,ff,ff] rfl rfl (by kernel_rfl) (fun _ _ _ h => h) (Or.inl ⟨by rfl, ?_⟩) ?_ ?_
   rotate_left
   · intro w'
     go_simp
     with_reducible rfl
   rotate_left
   · simp only [Act.put, List.setIfInBounds_toArray, List.set_cons_zero, List.set_cons_succ, i64_w, i32_w]
     rfl
   refine pure_ (i := 8) (N := some 54) (v := ?_) (a' := ?_) #[tt,tt,tt,tt,tt,tt,tt,tt,tt,ff] rfl rfl (by kernel_rfl) (fun _ _ _ h => h) (Or.inl ⟨by rfl, ?_⟩) ?_ ?_
   rotate_left
   · intro w'
     go_simp
     with_reducible rfl
   rotate_left
   · simp only [Act.put, List.setIfInBounds_toArray, List.set_cons_zero, List.set_cons_succ, i64_w, i32_w]
     rfl
   refine last_ (i := 9) (N := none) #[tt,tt,tt,tt,tt,tt,tt,tt,tt,tt] rfl rfl (by kernel_rfl) (by decide) (fun K hK => ?_)
   refine skip_ (w1 := ?_) (by rfl) rfl ?_ ?_
   rotate_left
   · go_simp
     rfl
   refine hK.out _ _ ?_
   clear hK K
   refine done_ (by kernel_rfl) ?_
   rw [HSH.out]
   have HGZ := Aside0.mk (blk_put HGC.out 4 (.int .i64 y4) rfl)
   have HBZ := Aside0.mk (HBX.out.setCell (p := ⟨wr.heap.size, 4, none⟩) (Nat.le_refl _) (.int .i64 y4))
   clear hHeld HGC HBX HGB HGD HBW j0 j1 j2 j3 j4 fj0 fj1 fj2 fj3 fj4 hx0 hx1 hx2 hx3 hx4
   generalize (w6.setCell ⟨wr.heap.size, 4, none⟩ (.int .i64 y4)) = wz at *
   obtain ⟨q, hq⟩ : ∃ q, q = rightB n ⟨sy.f0, sy.f1, sy.f2, sy.f3, y4⟩ := ⟨_, rfl⟩
   have HQ := Aside0.mk hq.symm
   have hri := rf_right n (by omega) (by omega) sy.f0 sy.f1 sy.f2 sy.f3 y4
   rw [← hq] at hri
   clear hq
   have z_ := HGZ.out
   have t0 : wz.cell? ⟨wr.heap.size, 0, none⟩ = some (.int .i64 sy.f0) := (cell_of z_ 0).trans rfl
   have t1 : wz.cell? ⟨wr.heap.size, 1, none⟩ = some (.int .i64 sy.f1) := (cell_of z_ 1).trans rfl
   have t2 : wz.cell? ⟨wr.heap.size, 2, none⟩ = some (.int .i64 sy.f2) := (cell_of z_ 2).trans rfl
   have t3 : wz.cell? ⟨wr.heap.size, 3, none⟩ = some (.int .i64 sy.f3) := (cell_of z_ 3).trans rfl
   have t4 : wz.cell? ⟨wr.heap.size, 4, none⟩ = some (.int .i64 y4) := (cell_of z_ 4).trans rfl
   have ft0 : wz.frozen? ⟨wr.heap.size, 0, none⟩ = false := blk_frozen z_ 0
   have ft1 : wz.frozen? ⟨wr.heap.size, 1, none⟩ = false := blk_frozen z_ 1
   have ft2 : wz.frozen? ⟨wr.heap.size, 2, none⟩ = false := blk_frozen z_ 2
   have ft3 : wz.frozen? ⟨wr.heap.size, 3, none⟩ = false := blk_frozen z_ 3
   have ft4 : wz.frozen? ⟨wr.heap.size, 4, none⟩ = false := blk_frozen z_ 4
   clear z_
   have hx_ := blk_below HX.out HBZ.out
   have z0 : wz.cell? ⟨w.heap.size, 0, none⟩ = some (.slice none 0 0) := (cell_of hx_ 0).trans rfl
   have z1 : wz.cell? ⟨w.heap.size, 1, none⟩ = some (.int .i64 0) := (cell_of hx_ 1).trans rfl
   have fz0 : wz.frozen? ⟨w.heap.size, 0, none⟩ = false := blk_frozen hx_ 0
   have fz1 : wz.frozen? ⟨w.heap.size, 1, none⟩ = false := blk_frozen hx_ 1
   clear hx_
   cases q
   · go_wp2_with (go_at_call 76; refine (cosignerref12_right.calls n sy.f0 sy.f1 sy.f2 sy.f3 y4 _ _ hri).mono ?_; rintro e wq ⟨rfl, hb⟩; have HBA := Aside0.mk (below_step HBZ.out hb); have HBQ := Aside0.mk (below_step HB.out HBA.out); have HXQ := Aside0.mk (blk_below HX.out HBA.out); have HOQ := Aside0.mk (Kd.R_below HO.out HBA.out); have y_ := blk_below HGZ.out hb; clear t0 t1 t2 t3 t4 ft0 ft1 ft2 ft3 ft4 z0 z1 fz0 fz1; have t0 : wq.cell? ⟨wr.heap.size, 0, none⟩ = some (.int .i64 sy.f0) := (cell_of y_ 0).trans rfl; have t1 : wq.cell? ⟨wr.heap.size, 1, none⟩ = some (.int .i64 sy.f1) := (cell_of y_ 1).trans rfl; have t2 : wq.cell? ⟨wr.heap.size, 2, none⟩ = some (.int .i64 sy.f2) := (cell_of y_ 2).trans rfl; have t3 : wq.cell? ⟨wr.heap.size, 3, none⟩ = some (.int .i64 sy.f3) := (cell_of y_ 3).trans rfl; have t4 : wq.cell? ⟨wr.heap.size, 4, none⟩ = some (.int .i64 y4) := (cell_of y_ 4).trans rfl; have ft0 : wq.frozen? ⟨wr.heap.size, 0, none⟩ = false := blk_frozen y_ 0; have ft1 : wq.frozen? ⟨wr.heap.size, 1, none⟩ = false := blk_frozen y_ 1; have ft2 : wq.frozen? ⟨wr.heap.size, 2, none⟩ = false := blk_frozen y_ 2; have ft3 : wq.frozen? ⟨wr.heap.size, 3, none⟩ = false := blk_frozen y_ 3; have ft4 : wq.frozen? ⟨wr.heap.size, 4, none⟩ = false := blk_frozen y_ 4; have hx_ := HXQ.out; have z0 : wq.cell? ⟨w.heap.size, 0, none⟩ = some (.slice none 0 0) := (cell_of hx_ 0).trans rfl; have z1 : wq.cell? ⟨w.heap.size, 1, none⟩ = some (.int .i64 0) := (cell_of hx_ 1).trans rfl; have fz0 : wq.frozen? ⟨w.heap.size, 0, none⟩ = false := blk_frozen hx_ 0; have fz1 : wq.frozen? ⟨w.heap.size, 1, none⟩ = false := blk_frozen hx_ 1; clear y_ hx_ hb)
     refine bodyPost_ret (results_cell_row rfl _ _ w.heap.size 80 #[.slice none 0 0, .int .i64 1] (0, 0) _ rfl (res80 HXQ.out _ _) Try.underlying80 rfl info80) rfl ?_
     rw [hbad (by rw [HYE.out]; exact HQ.out)]
     exact ⟨_, rfl, Kd.R_nil _ _ _ _ _, (HBQ.out.setCell (Nat.le_refl _) _).setCell (Nat.le_refl _) _⟩
   · go_wp2_with (first | (go_at_call 76; refine (cosignerref12_right.calls n sy.f0 sy.f1 sy.f2 sy.f3 y4 _ _ hri).mono ?_; rintro e wq ⟨rfl, hb⟩; have HBA := Aside0.mk (below_step HBZ.out hb); have HBQ := Aside0.mk (below_step HB.out HBA.out); have HXQ := Aside0.mk (blk_below HX.out HBA.out); have HOQ := Aside0.mk (Kd.R_below HO.out HBA.out); have y_ := blk_below HGZ.out hb; clear t0 t1 t2 t3 t4 ft0 ft1 ft2 ft3 ft4 z0 z1 fz0 fz1; have t0 : wq.cell? ⟨wr.heap.size, 0, none⟩ = some (.int .i64 sy.f0) := (cell_of y_ 0).trans rfl; have t1 : wq.cell? ⟨wr.heap.size, 1, none⟩ = some (.int .i64 sy.f1) := (cell_of y_ 1).trans rfl; have t2 : wq.cell? ⟨wr.heap.size, 2, none⟩ = some (.int .i64 sy.f2) := (cell_of y_ 2).trans rfl; have t3 : wq.cell? ⟨wr.heap.size, 3, none⟩ = some (.int .i64 sy.f3) := (cell_of y_ 3).trans rfl; have t4 : wq.cell? ⟨wr.heap.size, 4, none⟩ = some (.int .i64 y4) := (cell_of y_ 4).trans rfl; have ft0 : wq.frozen? ⟨wr.heap.size, 0, none⟩ = false := blk_frozen y_ 0; have ft1 : wq.frozen? ⟨wr.heap.size, 1, none⟩ = false := blk_frozen y_ 1; have ft2 : wq.frozen? ⟨wr.heap.size, 2, none⟩ = false := blk_frozen y_ 2; have ft3 : wq.frozen? ⟨wr.heap.size, 3, none⟩ = false := blk_frozen y_ 3; have ft4 : wq.frozen? ⟨wr.heap.size, 4, none⟩ = false := blk_frozen y_ 4; have hx_ := HXQ.out; have z0 : wq.cell? ⟨w.heap.size, 0, none⟩ = some (.slice none 0 0) := (cell_of hx_ 0).trans rfl; have z1 : wq.cell? ⟨w.heap.size, 1, none⟩ = some (.int .i64 0) := (cell_of hx_ 1).trans rfl; have fz0 : wq.frozen? ⟨w.heap.size, 0, none⟩ = false := blk_frozen hx_ 0; have fz1 : wq.frozen? ⟨w.heap.size, 1, none⟩ = false := blk_frozen hx_ 1; clear y_ hx_ hb) | ((with_reducible refine gate_builtin (b := .append) (xs := #[.tmp 61, .tmp 63]) rfl ?_); at_builtin; refine Kd.R_append k24 (w0 := w) w.heap.size rfl (.tmp 61) (.tmp 63) 22 24 (.agg #[(.int .i64 0), (.int .i64 0), (.int .i64 0), (.int .i64 0), (.int .i64 0)]) 40 rfl Try.underlying22 info24 rfl (by decide) (by omega) (.slice A6 out.length c6) out (⟨sy.f0, sy.f1, sy.f2, sy.f3, y4⟩ : S24) [.int .i64 sy.f0, .int .i64 sy.f1, .int .i64 sy.f2, .int .i64 sy.f3, .int .i64 y4] (fun _ => True) (fun _ => False) rfl rfl ?aP (fun _ hk => hk.elim) ?aF ?aO ?aB ?aS ?aL ?_; (case aP => exact k24_mkM _ _ _ _); (case aB => exact HBQ.out); (case aF => exact (fun _ _ => trivial)); (case aO => exact HOQ.out); (case aS => exact below_size HBQ.out); (case aL => have := HLT.out; omega); intro v46 w46 ho hb hg hat; have HON := Aside0.mk ho; have HBN := Aside0.mk hb; have HXN := Aside0.mk (blk_grown HXQ.out hg (Kd.R_ne HOQ.out HXQ.out (by decide))); clear ho hb hg hat))
     have hon := HON.out
     rw [← HYE.out, hnext] at hon
     obtain ⟨A9, c9, rfl⟩ := Kd.R_slice hon
     have hnl : nxt = (l.take (i + 1)).map (shiftS k b) := HNXT.out
     subst hnl
     refine ⟨⟨i + 1, A9, c9, by go_num, rfl, by omega, ⟨HAN.out (by rw [HYE.out]; exact HQ.out)⟩, ⟨hon⟩, HXN, HBN⟩, ?_⟩
     simp [intOf]; omega
 · have e : i = l.length := by omega
   have hid : decide (((i : Nat) : Int) < (l.length : Int)) = false := decide_eq_false (by omega)
   have hx := HX.out
   have z0 : wr.cell? ⟨w.heap.size, 0, none⟩ = some (.slice none 0 0) := (cell_of hx 0).trans rfl
   have z1 : wr.cell? ⟨w.heap.size, 1, none⟩ = some (.int .i64 0) := (cell_of hx 1).trans rfl
   have fz0 : wr.frozen? ⟨w.heap.size, 0, none⟩ = false := blk_frozen hx 0
   have fz1 : wr.frozen? ⟨w.heap.size, 1, none⟩ = false := blk_frozen hx 1
   clear hx
   have hgood : changedG n (shiftS k b) l = ((l.take i).map (shiftS k b), 0) := by rw [changed_good (fun j hj => HA.out j (by omega)), e, List.take_length]
   generalize (l.take i).map (shiftS k b) = out at *
   go_wp2_with fail
   refine bodyPost_ret (results_cell_row rfl _ _ w.heap.size 80 #[.slice A6 out.length c6, .int .i64 0] (0, 0) _ rfl (res80 HX.out _ _) Try.underlying80 rfl info80) rfl ?_
   have ho := keep80 HX.out HO.out (.slice A6 out.length c6) (.int .i64 0)
   rw [hgood]
   exact ⟨_, rfl, ho, (HB.out.setCell (Nat.le_refl _) _).setCell (Nat.le_refl _) _⟩
set_option maxRecDepth 100000 in
set_option maxHeartbeats 4000000 in
theorem rturn_main (n : Nat) (A : Option Addr) (c : Nat) (l : List S24) (k : Int) (w : World) (hr : Kd.C k24 w A l.length l) (hc : l.length ≤ c) (hk : checkE n l = 0) (hk0 : 0 ≤ k) (hkn : k < n) :
 Calls Try.prog 47 #[.int .i64 (n : Nat), .slice A l.length c, .int .i64 k] w fun e w' => ∃ v, e = .returned (.agg #[v, .int .i64 0]) ∧ Kd.R k24 24 w' w.heap.size (fun _ => True) v (l.map (turnS k)) ∧ Below w.heap.size w w' := by
 obtain ⟨h1, h2, h3, h4⟩ := check_ok hk
 have HR4 := Aside0.mk h4
 have HCW := Aside0.mk hr
 clear h4
 have hu80 := Try.underlying80
 have hu24 := Try.underlying24
 have hb0 := (Below.refl _ w).alloc (Nat.le_refl _) (.cells #[.slice none 0 0, .int .i64 0] 80)
 have HC := Aside0.mk (Kd.C_below hr hb0)
 have HB := Aside0.mk hb0
 have HX := Aside0.mk (heap1_0 w (.cells #[.slice none 0 0, .int .i64 0] 80))
 have HCC : Aside0 (∀ W, Kd.C k24 W A l.length l → Calls Try.prog 32 #[.int .i64 n, .slice A l.length c] W fun e w' => e = .returned (.int .i64 (checkE n l)) ∧ Below W.heap.size W w') := ⟨fun W h => cosignerref12_Check.calls 80 n A c l _ W h hc (rf_check n l 80 (by omega))⟩
 clear hr hb0
 rw [hk] at HCC
 have hwn : IntKind.i64.wrap ((n : Nat) - 1) = ((n : Nat) : Int) - 1 := (i64_w _).trans (by unfold wrap64; omega)
 have hin1 := in_f k 0 (((n : Nat) : Int) - 1)
 rw [decide_eq_true hk0, decide_eq_true (show k ≤ ((n : Nat) : Int) - 1 by omega)] at hin1
 simp only [Bool.and_self] at hin1
 go_enter Try.func47, Try.ntmps47
 go_upto_region 1 with (fail)
 generalize (w.alloc (.cells #[.slice none 0 0, .int .i64 0] 80)) = w0 at *
 go_upto_region 9 with (first | (go_at_call 32; refine (HCC.out _ HC.out).mono ?_; rintro e w1 ⟨rfl, hb⟩; have HC1 := Aside0.mk (Kd.C_below HC.out hb); have HB1 := Aside0.mk (below_step HB.out hb); have HX1 := Aside0.mk (blk_below HX.out hb); clear hb) | (go_at_call 64; (first | (with_reducible refine (cosignerref12_in.calls _ _ _ _ _ hin1).mono ?_)); rintro e wi ⟨rfl, hb⟩; have n0_ := Aside0.mk (Kd.C_below HC1.out hb.below); clear HC1; have HC1 := n0_; clear n0_; have n0_ := Aside0.mk (below_step HB1.out hb.below); clear HB1; have HB1 := n0_; clear n0_; have n0_ := Aside0.mk (blk_below HX1.out hb.below); clear HX1; have HX1 := n0_; clear n0_; clear hb))
 go_loopw [9, 10] (fun va vi wr => ∃ (i : Nat) (A6 : Option Addr) (c6 : Nat), vi = .int .i64 (i : Nat) ∧ va = .slice A6 ((l.take i).map (turnS k)).length c6 ∧ i ≤ l.length ∧ Aside0 (∀ j : Nat, j < i → True) ∧ Aside0 (Kd.R k24 24 wr w.heap.size (fun _ => True) (.slice A6 ((l.take i).map (turnS k)).length c6) ((l.take i).map (turnS k))) ∧ Aside0 (wr.heap[w.heap.size]? = some (.cells #[.slice none 0 0, .int .i64 0] 80 (0, 0))) ∧ Aside0 (Below w.heap.size w wr)) (fun _ vi _ => l.length - (intOf vi).toNat)
 case atStart => exact ⟨0, none, 0, rfl, rfl, by omega, ⟨fun j hj => trivial⟩, ⟨Kd.R_nil _ _ _ _ _⟩, HX1, HB1⟩
 case round =>
 clear HX1 HC1 HB1
 obtain ⟨i, A6, c6, rfl, rfl, hi, HA, HO, HX, HB⟩ := hrel
 have HC := Aside0.mk (Kd.C_below HCW.out HB.out)
 by_cases hil : i < l.length
 · have hid : decide (((i : Nat) : Int) < (l.length : Int)) = true := decide_eq_true (by omega)
   obtain ⟨ads, eds, hx0, hx1, hx2, hx3, hx4⟩ := at_T24 HC.out (i : Nat) (by omega) (by omega)
   cases eds
   rw [Int.toNat_natCast] at hx0 hx1 hx2 hx3 hx4
   have hsyl : rd_T24 l (i : Nat) ∈ l := by
    unfold rd_T24
    rw [Int.toNat_natCast, List.getD_eq_getElem?_getD, List.getElem?_eq_getElem hil]
    exact List.getElem_mem _
   have r := HR4.out _ hsyl
   have hnext := take_succ_map (φ := turnS k) hil
   have hlt : ((l.take i).map (turnS k)).length = i := by rw [List.length_map, List.length_take]; omega
   obtain ⟨out, hout⟩ : ∃ out, out = (l.take i).map (turnS k) := ⟨_, rfl⟩
   obtain ⟨nxt, hnxt⟩ : ∃ nxt, nxt = (l.take (i + 1)).map (turnS k) := ⟨_, rfl⟩
   have HNXT := Aside0.mk hnxt
   rw [← hout] at hnext hlt HO ⊢
   have HLT := Aside0.mk hlt
   clear hlt
   rw [← hnxt] at hnext
   generalize rd_T24 l (i : Nat) = sy at *
   clear hsyl hout hnxt
   go_upto_region 12 with (fail)
   have hb1 := (Below.refl _ wr).alloc (Nat.le_refl _) (.cells #[.int .i64 sy.f0, .int .i64 sy.f1, .int .i64 sy.f2, .int .i64 sy.f3, .int .i64 sy.f4] 24)
   have HGB := Aside0.mk (heap1_0 wr (.cells #[.int .i64 sy.f0, .int .i64 sy.f1, .int .i64 sy.f2, .int .i64 sy.f3, .int .i64 sy.f4] 24))
   have HBW := Aside0.mk hb1
   clear hb1
   generalize (wr.alloc (.cells #[.int .i64 sy.f0, .int .i64 sy.f1, .int .i64 sy.f2, .int .i64 sy.f3, .int .i64 sy.f4] 24)) = wv at *
   have hx_ := HGB.out
   have j0 : wv.cell? ⟨wr.heap.size, 0, none⟩ = some (.int .i64 sy.f0) := (cell_of hx_ 0).trans rfl
   have j1 : wv.cell? ⟨wr.heap.size, 1, none⟩ = some (.int .i64 sy.f1) := (cell_of hx_ 1).trans rfl
   have j2 : wv.cell? ⟨wr.heap.size, 2, none⟩ = some (.int .i64 sy.f2) := (cell_of hx_ 2).trans rfl
   have j3 : wv.cell? ⟨wr.heap.size, 3, none⟩ = some (.int .i64 sy.f3) := (cell_of hx_ 3).trans rfl
   have j4 : wv.cell? ⟨wr.heap.size, 4, none⟩ = some (.int .i64 sy.f4) := (cell_of hx_ 4).trans rfl
   have fj0 : wv.frozen? ⟨wr.heap.size, 0, none⟩ = false := blk_frozen hx_ 0
   have fj1 : wv.frozen? ⟨wr.heap.size, 1, none⟩ = false := blk_frozen hx_ 1
   have fj2 : wv.frozen? ⟨wr.heap.size, 2, none⟩ = false := blk_frozen hx_ 2
   have fj3 : wv.frozen? ⟨wr.heap.size, 3, none⟩ = false := blk_frozen hx_ 3
   have fj4 : wv.frozen? ⟨wr.heap.size, 4, none⟩ = false := blk_frozen hx_ 4
   clear hx_
   have hw1 : IntKind.i64.wrap (-sy.f1) = -sy.f1 := (i64_w _).trans (by have := r.p; unfold wrap64; omega)
   have hw3 : IntKind.i64.wrap (-sy.f3) = -sy.f3 := (i64_w _).trans (by have := r.q; unfold wrap64; omega)
   clear r hx0 hx1 hx2 hx3 hx4
   go_upto_if 39 with (fail)
   go_cut [] (fun wc => ∃ g1 : Int, g1 = (turnS k sy).f1 ∧ Aside0 (wc.heap[wr.heap.size]? = some (.cells #[.int .i64 sy.f0, .int .i64 g1, .int .i64 sy.f2, .int .i64 sy.f3, .int .i64 sy.f4] 24 (0, 0))) ∧ Aside0 (Below wr.heap.size wr wc))
   case first =>
    by_cases h0 : sy.f0 = k
    · have hb0 : (sy.f0 == k) = true := beq_iff_eq.mpr h0
      go_wp2_with fail
      go_meet
      exact ⟨-sy.f1, by unfold turnS; rw [if_pos h0], ⟨blk_put HGB.out 1 (.int .i64 (-sy.f1)) rfl⟩, ⟨HBW.out.setCell (p := ⟨wr.heap.size, 1, none⟩) (Nat.le_refl _) (.int .i64 (-sy.f1))⟩⟩
    · have hb0 : (sy.f0 == k) = false := beq_eq_false_iff_ne.mpr h0
      go_wp2_with fail
      go_meet
      exact ⟨sy.f1, by unfold turnS; rw [if_neg h0], HGB, HBW⟩
   case rest =>
   obtain ⟨g1, hg1, HGC, HBC⟩ := hcut
   have HG1 := Aside0.mk hg1
   clear hg1 j0 j1 j2 j3 j4 fj0 fj1 fj2 fj3 fj4 HGB HBW hw1
   have hx_ := HGC.out
   have t0 : wc.cell? ⟨wr.heap.size, 0, none⟩ = some (.int .i64 sy.f0) := (cell_of hx_ 0).trans rfl
   have t1 : wc.cell? ⟨wr.heap.size, 1, none⟩ = some (.int .i64 g1) := (cell_of hx_ 1).trans rfl
   have t2 : wc.cell? ⟨wr.heap.size, 2, none⟩ = some (.int .i64 sy.f2) := (cell_of hx_ 2).trans rfl
   have t3 : wc.cell? ⟨wr.heap.size, 3, none⟩ = some (.int .i64 sy.f3) := (cell_of hx_ 3).trans rfl
   have t4 : wc.cell? ⟨wr.heap.size, 4, none⟩ = some (.int .i64 sy.f4) := (cell_of hx_ 4).trans rfl
   have ft0 : wc.frozen? ⟨wr.heap.size, 0, none⟩ = false := blk_frozen hx_ 0
   have ft1 : wc.frozen? ⟨wr.heap.size, 1, none⟩ = false := blk_frozen hx_ 1
   have ft2 : wc.frozen? ⟨wr.heap.size, 2, none⟩ = false := blk_frozen hx_ 2
   have ft3 : wc.frozen? ⟨wr.heap.size, 3, none⟩ = false := blk_frozen hx_ 3
   have ft4 : wc.frozen? ⟨wr.heap.size, 4, none⟩ = false := blk_frozen hx_ 4
   clear hx_
   have e3 : (turnS k sy).f3 = if sy.f3 ≠ 0 ∧ sy.f2 = k then -sy.f3 else sy.f3 := by
    unfold turnS
    by_cases h2 : sy.f2 = k
    · by_cases h3 : sy.f3 = 0
      · simp [h2, h3]
      · simp [h2, h3]
    · simp [h2]
   have HE3 := Aside0.mk e3
   clear e3
   obtain ⟨bb, hbb⟩ : ∃ bb, bb = ((sy.f3 != 0) && (sy.f2 == k)) := ⟨_, rfl⟩
   have HBB := Aside0.mk hbb
   clear hbb
   go_upto_region 14 with (fail)
   go_cut [52] (fun v52 wd => v52 = .bool bb ∧ wd = wc)
   case first =>
    by_cases h3 : sy.f3 = 0
    · have hb3 : (sy.f3 != 0) = false := bne_eq_false_iff_eq.mpr h3
      obtain rfl : bb = false := by rw [HBB.out, hb3]; rfl
      clear h3
      go_wp2_with fail
      go_meet
      exact ⟨rfl, rfl⟩
    · have hb3 : (sy.f3 != 0) = true := by rw [bne_iff_ne]; exact h3
      by_cases h2 : sy.f2 = k
      · have hb2 : (sy.f2 == k) = true := beq_iff_eq.mpr h2
        obtain rfl : bb = true := by rw [HBB.out, hb3, hb2]; rfl
        clear h2
        go_wp2_with fail
        go_meet
        exact ⟨rfl, rfl⟩
      · have hb2 : (sy.f2 == k) = false := beq_eq_false_iff_ne.mpr h2
        obtain rfl : bb = false := by rw [HBB.out, hb3, hb2]; rfl
        clear h2
        go_wp2_with fail
        go_meet
        exact ⟨rfl, rfl⟩
   case rest =>
   obtain ⟨rfl, rfl⟩ := hcut
   go_upto_if 52 with (fail)
   go_cut [] (fun we => ∃ g3 : Int, g3 = (turnS k sy).f3 ∧ Aside0 (we.heap[wr.heap.size]? = some (.cells #[.int .i64 sy.f0, .int .i64 g1, .int .i64 sy.f2, .int .i64 g3, .int .i64 sy.f4] 24 (0, 0))) ∧ Aside0 (Below wr.heap.size wr we))
   case first =>
    cases bb
    · go_wp2_with fail
      go_meet
      refine ⟨sy.f3, ?_, HGC, HBC⟩
      rw [HE3.out, if_neg]
      rintro ⟨a1, a2⟩
      have := HBB.out
      rw [show (sy.f3 != 0) = true from by rw [bne_iff_ne]; exact a1, show (sy.f2 == k) = true from beq_iff_eq.mpr a2] at this
      cases this
    · go_wp2_with fail
      go_meet
      refine ⟨-sy.f3, ?_, ⟨blk_put HGC.out 3 (.int .i64 (-sy.f3)) rfl⟩, ⟨HBC.out.setCell (p := ⟨wr.heap.size, 3, none⟩) (Nat.le_refl _) (.int .i64 (-sy.f3))⟩⟩
      have h := HBB.out.symm
      rw [Bool.and_eq_true] at h
      rw [HE3.out, if_pos ⟨by have := h.1; rw [bne_iff_ne] at this; exact this, beq_iff_eq.mp h.2⟩]
   case rest =>
   obtain ⟨g3, hg3, HGZ, HBZ⟩ := hcut
   have HG3 := Aside0.mk hg3
   clear hg3 t0 t1 t2 t3 t4 ft0 ft1 ft2 ft3 ft4 HGC HBC hw3
   have hx_ := HGZ.out
   have t0 : wc.cell? ⟨wr.heap.size, 0, none⟩ = some (.int .i64 sy.f0) := (cell_of hx_ 0).trans rfl
   have t1 : wc.cell? ⟨wr.heap.size, 1, none⟩ = some (.int .i64 g1) := (cell_of hx_ 1).trans rfl
   have t2 : wc.cell? ⟨wr.heap.size, 2, none⟩ = some (.int .i64 sy.f2) := (cell_of hx_ 2).trans rfl
   have t3 : wc.cell? ⟨wr.heap.size, 3, none⟩ = some (.int .i64 g3) := (cell_of hx_ 3).trans rfl
   have t4 : wc.cell? ⟨wr.heap.size, 4, none⟩ = some (.int .i64 sy.f4) := (cell_of hx_ 4).trans rfl
   have ft0 : wc.frozen? ⟨wr.heap.size, 0, none⟩ = false := blk_frozen hx_ 0
   have ft1 : wc.frozen? ⟨wr.heap.size, 1, none⟩ = false := blk_frozen hx_ 1
   have ft2 : wc.frozen? ⟨wr.heap.size, 2, none⟩ = false := blk_frozen hx_ 2
   have ft3 : wc.frozen? ⟨wr.heap.size, 3, none⟩ = false := blk_frozen hx_ 3
   have ft4 : wc.frozen? ⟨wr.heap.size, 4, none⟩ = false := blk_frozen hx_ 4
   clear hx_
   have HYE : Aside0 (turnS k sy = ⟨sy.f0, g1, sy.f2, g3, sy.f4⟩) := ⟨by rw [HG1.out, HG3.out]; rfl⟩
   have HBQ := Aside0.mk (below_step HB.out HBZ.out)
   have HXQ := Aside0.mk (blk_below HX.out HBZ.out)
   have HOQ := Aside0.mk (Kd.R_below HO.out HBZ.out)
   go_wp2_with ((with_reducible refine gate_builtin (b := .append) (xs := #[.tmp 57, .tmp 59]) rfl ?_); at_builtin; refine Kd.R_append k24 (w0 := w) w.heap.size rfl (.tmp 57) (.tmp 59) 22 24 (.agg #[(.int .i64 0), (.int .i64 0), (.int .i64 0), (.int .i64 0), (.int .i64 0)]) 40 rfl Try.underlying22 info24 rfl (by decide) (by omega) (.slice A6 out.length c6) out (⟨sy.f0, g1, sy.f2, g3, sy.f4⟩ : S24) [.int .i64 sy.f0, .int .i64 g1, .int .i64 sy.f2, .int .i64 g3, .int .i64 sy.f4] (fun _ => True) (fun _ => False) rfl rfl ?aP (fun _ hk => hk.elim) ?aF ?aO ?aB ?aS ?aL ?_; (case aP => exact k24_mkM _ _ _ _); (case aB => exact HBQ.out); (case aF => exact (fun _ _ => trivial)); (case aO => exact HOQ.out); (case aS => exact below_size HBQ.out); (case aL => have := HLT.out; omega); intro v46 w46 ho hb hg hat; have HON := Aside0.mk ho; have HBN := Aside0.mk hb; have HXN := Aside0.mk (blk_grown HXQ.out hg (Kd.R_ne HOQ.out HXQ.out (by decide))); clear ho hb hg hat)
   have hon := HON.out
   rw [← HYE.out, hnext] at hon
   obtain ⟨A9, c9, rfl⟩ := Kd.R_slice hon
   have hnl : nxt = (l.take (i + 1)).map (turnS k) := HNXT.out
   subst hnl
   refine ⟨⟨i + 1, A9, c9, by go_num, rfl, by omega, ⟨fun j hj => trivial⟩, ⟨hon⟩, HXN, HBN⟩, ?_⟩
   simp [intOf]; omega
 · have e : i = l.length := by omega
   have hid : decide (((i : Nat) : Int) < (l.length : Int)) = false := decide_eq_false (by omega)
   have hx := HX.out
   have z0 : wr.cell? ⟨w.heap.size, 0, none⟩ = some (.slice none 0 0) := (cell_of hx 0).trans rfl
   have z1 : wr.cell? ⟨w.heap.size, 1, none⟩ = some (.int .i64 0) := (cell_of hx 1).trans rfl
   have fz0 : wr.frozen? ⟨w.heap.size, 0, none⟩ = false := blk_frozen hx 0
   have fz1 : wr.frozen? ⟨w.heap.size, 1, none⟩ = false := blk_frozen hx 1
   clear hx
   have hgood : l.map (turnS k) = (l.take i).map (turnS k) := by rw [e, List.take_length]
   generalize (l.take i).map (turnS k) = out at *
   go_wp2_with fail
   refine bodyPost_ret (results_cell_row rfl _ _ w.heap.size 80 #[.slice A6 out.length c6, .int .i64 0] (0, 0) _ rfl (res80 HX.out _ _) Try.underlying80 rfl info80) rfl ?_
   have ho := keep80 HX.out HO.out (.slice A6 out.length c6) (.int .i64 0)
   rw [hgood]
   exact ⟨_, rfl, ho, (HB.out.setCell (Nat.le_refl _) _).setCell (Nat.le_refl _) _⟩
theorem rshift_calls (n : Int) (A : Option Addr) (c : Nat) (l : List S24) (k b : Int) (w : World) (hr : Kd.C k24 w A l.length l) (hc : l.length ≤ c) :
 Calls Try.prog 45 #[.int .i64 n, .slice A l.length c, .int .i64 k, .int .i64 b] w fun e w' => ∃ v, e = .returned (.agg #[v, .int .i64 (shiftedG n l k b).2]) ∧ Kd.R k24 24 w' w.heap.size (fun _ => True) v (shiftedG n l k b).1 ∧ Below w.heap.size w w' := by
 unfold shiftedG indexE
 by_cases hk : checkE n l = 0
 · obtain ⟨h1, _, _, _⟩ := check_ok hk
   obtain ⟨n, rfl⟩ : ∃ m : Nat, n = m := ⟨n.toNat, by omega⟩
   rw [if_pos hk]
   by_cases h0 : 0 ≤ k ∧ k ≤ (n : Int) - 1
   · rw [if_pos h0, if_pos rfl]
     by_cases hb : -1000000 ≤ b ∧ b ≤ 1000000
     · rw [if_pos hb]
       exact rshift_main n A c l k b w hr hc hk h0.1 (by omega) hb
     · rw [if_neg hb]
       exact (rshift_out n A c l k b w hr hc hk _ _ rfl rfl (by rw [Bool.and_eq_false_iff]; right; rw [Bool.and_eq_false_iff]; by_cases e : -1000000 ≤ b <;> simp [e] <;> omega)).mono fun e w' ⟨h1, h2⟩ => ⟨_, h1, Kd.R_nil _ _ _ _ _, h2⟩
   · rw [if_neg h0, if_neg (by decide)]
     exact (rshift_out n A c l k b w hr hc hk _ _ rfl rfl (by rw [Bool.and_eq_false_iff]; left; rw [Bool.and_eq_false_iff]; by_cases e : 0 ≤ k <;> simp [e] <;> omega)).mono fun e w' ⟨h1, h2⟩ => ⟨_, h1, Kd.R_nil _ _ _ _ _, h2⟩
 · rw [if_neg hk, if_neg hk]
   exact (rshift_err n A c l k b w hr hc hk).mono fun e w' ⟨h1, h2⟩ => ⟨_, h1, Kd.R_nil _ _ _ _ _, h2⟩
theorem rturn_calls (n : Int) (A : Option Addr) (c : Nat) (l : List S24) (k : Int) (w : World) (hr : Kd.C k24 w A l.length l) (hc : l.length ≤ c) (hte : ∀ (m : Nat), n = m → checkE n l = 0 → 0 ≤ k → k < n → turnedG n l k = (l.map (turnS k), 0)) :
 Calls Try.prog 47 #[.int .i64 n, .slice A l.length c, .int .i64 k] w fun e w' => ∃ v, e = .returned (.agg #[v, .int .i64 (turnedG n l k).2]) ∧ Kd.R k24 24 w' w.heap.size (fun _ => True) v (turnedG n l k).1 ∧ Below w.heap.size w w' := by
 by_cases hk : checkE n l = 0
 · obtain ⟨h1, _, _, _⟩ := check_ok hk
   obtain ⟨n, rfl⟩ : ∃ m : Nat, n = m := ⟨n.toNat, by omega⟩
   by_cases h0 : 0 ≤ k ∧ k ≤ (n : Int) - 1
   · rw [hte n rfl hk h0.1 (by omega)]
     exact rturn_main n A c l k w hr hc hk h0.1 (by omega)
   · unfold turnedG indexE
     rw [if_pos hk, if_neg h0, if_neg (by decide)]
     exact (rturn_out n A c l k w hr hc hk (by rw [Bool.and_eq_false_iff]; by_cases e : 0 ≤ k <;> simp [e] <;> omega)).mono fun e w' ⟨h1, h2⟩ => ⟨_, h1, Kd.R_nil _ _ _ _ _, h2⟩
 · unfold turnedG indexE
   rw [if_neg hk, if_neg hk]
   exact (rturn_err n A c l k w hr hc hk).mono fun e w' ⟨h1, h2⟩ => ⟨_, h1, Kd.R_nil _ _ _ _ _, h2⟩
end Go.Proofs.Ytmoiickbgokloaa.PA
