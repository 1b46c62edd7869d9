/- Words and walks that the kit's printer wrote for this claim, less what the proofs do not use. -/
import Derived.Test.YtmoiickbgokloaaKCk
import Derived.Test.YtmoiickbgokloaaKHk
namespace Go.Proofs.Ytmoiickbgokloaa.PA
open Go.RowKit Go.Proofs.YtmoiickbgokloaaW.PrintWords Go.Proofs.YtmoiickbgokloaaW.PrintLast Go.Proofs.YtmoiickbgokloaaW.PrintMore Go.Proofs.Ytmoiickbgokloaa.Utv
set_option linter.unusedVariables false
set_option linter.unusedSimpArgs false
def shiftedG (n : Int) (l : List S24) (k b : Int) : List S24 × Int := if indexE n l k = 0 then (if -1000000 ≤ b ∧ b ≤ 1000000 then changedG n (shiftS k b) l else ([], 1)) else ([], indexE n l k)
def turnedG (n : Int) (l : List S24) (k : Int) : List S24 × Int := if indexE n l k = 0 then changedG n (turnS k) l else ([], indexE n l k)
set_option maxRecDepth 100000 in
set_option maxHeartbeats 1000000 in
theorem shift_ok (n : Nat) (A : Option Addr) (c : Nat) (l : List S24) (k b : Int) (w : World) (hr : Kd.C k24 w A l.length l) (hc : l.length ≤ c) (hk : indexE n l k = 0) (hbb : -1000000 ≤ b ∧ b ≤ 1000000) :
 Calls Try.prog 44 #[.int .i64 (n : Nat), .slice A l.length c, .int .i64 k, .int .i64 b] w fun e w' => ∃ v, e = .returned (.tuple #[v, .int .i64 (changedG n (shiftS k b) l).2]) ∧ Kd.R k24 24 w' w.heap.size (fun _ => True) v (changedG n (shiftS k b) l).1 ∧ Below w.heap.size w w' := by
 obtain ⟨hck, hk0, hkn⟩ := indexE_ok hk
 obtain ⟨h1, h2, h3, h4⟩ := check_ok hck
 have H4 := Aside0.mk h4
 have hb0 := ((Below.refl _ w).alloc (Nat.le_refl _) (.cells #[.int .i64 k] 3)).alloc (by simp) (.cells #[.int .i64 b] 3)
 have HB0 := Aside0.mk hb0
 have HL0 := Aside0.mk (Kd.C_below hr hb0)
 have hX0 := heap2_0 w (.cells #[.int .i64 k] 3) (.cells #[.int .i64 b] 3)
 have hX1 := heap2_1 w (.cells #[.int .i64 k] 3) (.cells #[.int .i64 b] 3)
 have HI : Aside0 (∀ W, Kd.C k24 W A l.length l → Calls Try.prog 62 #[.int .i64 (n : Nat), .slice A l.length c, .int .i64 k] W fun e w' => e = .returned (.int .i64 0) ∧ Below W.heap.size W w') := ⟨fun W h => by rw [← hk]; exact pindex_calls n A c l k W h hc⟩
 have hsz : ((w.alloc (.cells #[.int .i64 k] 3)).alloc (.cells #[.int .i64 b] 3)).heap.size = w.heap.size + 2 := by simp
 clear hr hb0 h4 hk
 go_enter Try.func44, Try.ntmps44
 go_upto_region 1 with (fail)
 generalize ((w.alloc (.cells #[.int .i64 k] 3)).alloc (.cells #[.int .i64 b] 3)) = w0 at *
 have x0 : w0.cell? ⟨w.heap.size, 0, none⟩ = some (.int .i64 k) := (cell_of hX0 0).trans rfl
 have x1 : w0.cell? ⟨w.heap.size + 1, 0, none⟩ = some (.int .i64 b) := (cell_of hX1 0).trans rfl
 have HX0 := Aside0.mk hX0
 have HX1 := Aside0.mk hX1
 have HSZ := Aside0.mk hsz
 clear hX0 hX1 hsz
 go_upto_region 6 with (first | (go_at_call 62; refine (HI.out _ HL0.out).mono ?_; rintro e w1 ⟨rfl, hb⟩; have HB1 := Aside0.mk (below_step HB0.out hb); have HL1 := Aside0.mk (Kd.C_below HL0.out hb); have hy0 := blk_below HX0.out hb; have y0 : w1.cell? ⟨w.heap.size, 0, none⟩ = some (.int .i64 k) := (cell_of hy0 0).trans rfl; have HY0 := Aside0.mk hy0; have hy1 := blk_below HX1.out hb; have y1 : w1.cell? ⟨w.heap.size + 1, 0, none⟩ = some (.int .i64 b) := (cell_of hy1 0).trans rfl; have HY1 := Aside0.mk hy1; clear hy1 x1; clear hb hy0 x0) | (go_at_call 71; refine (within_same _ _ _ _).mono ?_; rw [show (decide ((-1000000 : Int) ≤ b) && decide (b ≤ 1000000)) = true from by simp; omega]; rintro e w2 ⟨rfl, hb⟩; have HB2 := Aside0.mk (below_step HB1.out hb.below); have HL2 := Aside0.mk (Kd.C_below HL1.out hb.below); have HZ0 := Aside0.mk (blk_below HY0.out hb.below); have HZ1 := Aside0.mk (blk_below HY1.out hb.below); clear hb y0 y1))
 have hs2 := HB2.out.size
 go_wp2_with (go_at_call 86; refine (changed_shift n A c l k b ⟨w.heap.size, 0, none⟩ ⟨w.heap.size + 1, 0, none⟩ _ HL2.out hc (by omega) (by omega) h3 H4.out ((cell_of HZ0.out 0).trans rfl) ((cell_of HZ1.out 0).trans rfl) (blk_lt HZ0.out) (blk_lt HZ1.out) hbb).mono ?_; rintro e w3 ⟨v3, rfl, hR, hb⟩; have HR3 := Aside0.mk (Kd.R_lower hR (below_size HB2.out)); have HB3 := Aside0.mk (below_step HB2.out hb); clear hb hR)
 go_ret2
 exact ⟨_, rfl, HR3.out, HB3.out⟩
set_option maxRecDepth 100000 in
set_option maxHeartbeats 1000000 in
theorem turn_ok (n : Nat) (A : Option Addr) (c : Nat) (l : List S24) (k : Int) (w : World) (hr : Kd.C k24 w A l.length l) (hc : l.length ≤ c) (hk : indexE n l k = 0)  :
 Calls Try.prog 46 #[.int .i64 (n : Nat), .slice A l.length c, .int .i64 k] w fun e w' => ∃ v, e = .returned (.tuple #[v, .int .i64 (changedG n (turnS k) l).2]) ∧ Kd.R k24 24 w' w.heap.size (fun _ => True) v (changedG n (turnS k) l).1 ∧ Below w.heap.size w w' := by
 obtain ⟨hck, hk0, hkn⟩ := indexE_ok hk
 obtain ⟨h1, h2, h3, h4⟩ := check_ok hck
 have H4 := Aside0.mk h4
 have hb0 := (Below.refl _ w).alloc (Nat.le_refl _) (.cells #[.int .i64 k] 3)
 have HB0 := Aside0.mk hb0
 have HL0 := Aside0.mk (Kd.C_below hr hb0)
 have hX0 := heap1_0 w (.cells #[.int .i64 k] 3)
 have HI : Aside0 (∀ W, Kd.C k24 W A l.length l → Calls Try.prog 62 #[.int .i64 (n : Nat), .slice A l.length c, .int .i64 k] W fun e w' => e = .returned (.int .i64 0) ∧ Below W.heap.size W w') := ⟨fun W h => by rw [← hk]; exact pindex_calls n A c l k W h hc⟩
 have hsz : (w.alloc (.cells #[.int .i64 k] 3)).heap.size = w.heap.size + 1 := by simp
 clear hr hb0 h4 hk
 go_enter Try.func46, Try.ntmps46
 go_upto_region 1 with (fail)
 generalize (w.alloc (.cells #[.int .i64 k] 3)) = w0 at *
 have x0 : w0.cell? ⟨w.heap.size, 0, none⟩ = some (.int .i64 k) := (cell_of hX0 0).trans rfl
 have HX0 := Aside0.mk hX0
 have HSZ := Aside0.mk hsz
 clear hX0 hsz
 go_upto_region 4 with (first | (go_at_call 62; refine (HI.out _ HL0.out).mono ?_; rintro e w1 ⟨rfl, hb⟩; have HB1 := Aside0.mk (below_step HB0.out hb); have HL1 := Aside0.mk (Kd.C_below HL0.out hb); have hy0 := blk_below HX0.out hb; have y0 : w1.cell? ⟨w.heap.size, 0, none⟩ = some (.int .i64 k) := (cell_of hy0 0).trans rfl; have HY0 := Aside0.mk hy0; clear hb hy0 x0))
 have hs1 := HB1.out.size
 clear y0
 go_wp2_with (go_at_call 86; refine (changed_turn n A c l k ⟨w.heap.size, 0, none⟩ _ HL1.out hc (by omega) (by omega) h3 H4.out ((cell_of HY0.out 0).trans rfl) (blk_lt HY0.out)).mono ?_; rintro e w3 ⟨v3, rfl, hR, hb⟩; have HR3 := Aside0.mk (Kd.R_lower hR (below_size HB1.out)); have HB3 := Aside0.mk (below_step HB1.out hb); clear hb hR)
 go_ret2
 exact ⟨_, rfl, HR3.out, HB3.out⟩
set_option maxRecDepth 100000 in
set_option maxHeartbeats 1000000 in
theorem shift_err (n : Int) (A : Option Addr) (c : Nat) (l : List S24) (k b : Int) (w : World) (hr : Kd.C k24 w A l.length l) (hc : l.length ≤ c) (hk : indexE n l k ≠ 0) :
 Calls Try.prog 44 #[.int .i64 n, .slice A l.length c, .int .i64 k, .int .i64 b] w fun e w' => e = .returned (.tuple #[.slice none 0 0, .int .i64 (indexE n l k)]) ∧ Below w.heap.size w w' := by
 have hcb : (indexE n l k != 0) = true := by rw [bne_iff_ne]; exact hk
 have hb0 := ((Below.refl _ w).alloc (Nat.le_refl _) (.cells #[.int .i64 k] 3)).alloc (by simp) (.cells #[.int .i64 b] 3)
 have HB0 := Aside0.mk hb0
 have HL0 := Aside0.mk (Kd.C_below hr hb0)
 have hX0 := heap2_0 w (.cells #[.int .i64 k] 3) (.cells #[.int .i64 b] 3)
 clear hr hb0 hk
 go_enter Try.func44, Try.ntmps44
 go_upto_region 1 with (fail)
 generalize ((w.alloc (.cells #[.int .i64 k] 3)).alloc (.cells #[.int .i64 b] 3)) = w0 at *
 have x0 : w0.cell? ⟨w.heap.size, 0, none⟩ = some (.int .i64 k) := (cell_of hX0 0).trans rfl
 clear hX0
 go_wp2_with (go_at_call 62; refine (pindex_calls n A c l k _ HL0.out hc).mono ?_; rintro e w1 ⟨rfl, hb⟩; have HB1 := Aside0.mk (below_step HB0.out hb); clear hb)
 go_ret2
 exact ⟨rfl, HB1.out⟩
set_option maxRecDepth 100000 in
set_option maxHeartbeats 1000000 in
theorem turn_err (n : Int) (A : Option Addr) (c : Nat) (l : List S24) (k : Int) (w : World) (hr : Kd.C k24 w A l.length l) (hc : l.length ≤ c) (hk : indexE n l k ≠ 0) :
 Calls Try.prog 46 #[.int .i64 n, .slice A l.length c, .int .i64 k] w fun e w' => e = .returned (.tuple #[.slice none 0 0, .int .i64 (indexE n l k)]) ∧ Below w.heap.size w w' := by
 have hcb : (indexE n l k != 0) = true := by rw [bne_iff_ne]; exact hk
 have hb0 := (Below.refl _ w).alloc (Nat.le_refl _) (.cells #[.int .i64 k] 3)
 have HB0 := Aside0.mk hb0
 have HL0 := Aside0.mk (Kd.C_below hr hb0)
 have hX0 := heap1_0 w (.cells #[.int .i64 k] 3)
 clear hr hb0 hk
 go_enter Try.func46, Try.ntmps46
 go_upto_region 1 with (fail)
 generalize (w.alloc (.cells #[.int .i64 k] 3)) = w0 at *
 have x0 : w0.cell? ⟨w.heap.size, 0, none⟩ = some (.int .i64 k) := (cell_of hX0 0).trans rfl
 clear hX0
 go_wp2_with (go_at_call 62; refine (pindex_calls n A c l k _ HL0.out hc).mono ?_; rintro e w1 ⟨rfl, hb⟩; have HB1 := Aside0.mk (below_step HB0.out hb); clear hb)
 go_ret2
 exact ⟨rfl, HB1.out⟩
set_option maxRecDepth 100000 in
set_option maxHeartbeats 1000000 in
theorem shift_far (n : Int) (A : Option Addr) (c : Nat) (l : List S24) (k b : Int) (w : World) (hr : Kd.C k24 w A l.length l) (hc : l.length ≤ c) (hk : indexE n l k = 0) (hbb : ¬ (-1000000 ≤ b ∧ b ≤ 1000000)) :
 Calls Try.prog 44 #[.int .i64 n, .slice A l.length c, .int .i64 k, .int .i64 b] w fun e w' => e = .returned (.tuple #[.slice none 0 0, .int .i64 1]) ∧ Below w.heap.size w w' := by
 have hb0 := ((Below.refl _ w).alloc (Nat.le_refl _) (.cells #[.int .i64 k] 3)).alloc (by simp) (.cells #[.int .i64 b] 3)
 have HB0 := Aside0.mk hb0
 have HL0 := Aside0.mk (Kd.C_below hr hb0)
 have hX0 := heap2_0 w (.cells #[.int .i64 k] 3) (.cells #[.int .i64 b] 3)
 have hX1 := heap2_1 w (.cells #[.int .i64 k] 3) (.cells #[.int .i64 b] 3)
 have HI : Aside0 (∀ W, Kd.C k24 W A l.length l → Calls Try.prog 62 #[.int .i64 n, .slice A l.length c, .int .i64 k] W fun e w' => e = .returned (.int .i64 0) ∧ Below W.heap.size W w') := ⟨fun W h => by rw [← hk]; exact pindex_calls n A c l k W h hc⟩
 have HW : Aside0 ((decide ((-1000000 : Int) ≤ b) && decide (b ≤ 1000000)) = false) := ⟨by
  cases h : (decide ((-1000000 : Int) ≤ b) && decide (b ≤ 1000000)) with
  | false => rfl
  | true => simp at h; exact (hbb h).elim⟩
 clear hr hb0 hk hbb
 go_enter Try.func44, Try.ntmps44
 go_upto_region 1 with (fail)
 generalize ((w.alloc (.cells #[.int .i64 k] 3)).alloc (.cells #[.int .i64 b] 3)) = w0 at *
 have x0 : w0.cell? ⟨w.heap.size, 0, none⟩ = some (.int .i64 k) := (cell_of hX0 0).trans rfl
 have HX1 := Aside0.mk hX1
 clear hX0 hX1
 go_wp2_with (first | (go_at_call 62; refine (HI.out _ HL0.out).mono ?_; rintro e w1 ⟨rfl, hb⟩; have HB1 := Aside0.mk (below_step HB0.out hb); have hy1 := blk_below HX1.out hb; have y1 : w1.cell? ⟨w.heap.size + 1, 0, none⟩ = some (.int .i64 b) := (cell_of hy1 0).trans rfl; clear hb hy1 x0) | (go_at_call 71; refine (within_same _ _ _ _).mono ?_; rw [HW.out]; rintro e w2 ⟨rfl, hb⟩; have HB2 := Aside0.mk (below_step HB1.out hb.below); clear hb))
 go_ret2
 exact ⟨rfl, HB2.out⟩
def prove_Shifted.f (a0 : Int) (l1 : List S24) (a2 a3 : Int) : Option (List S24 × Int) := some (shiftedG a0 l1 a2 a3)
theorem prove_Shifted.calls (a0 : Int) (A1 : Option Addr) (c1 : Nat) (l1 : List S24) (a2 a3 : Int) (r1 : List S24) (r2 : Int) (w : World) (hr1 : Kd.C k24 w A1 l1.length l1) (hc1 : l1.length ≤ c1) (h : prove_Shifted.f a0 l1 a2 a3 = some (r1, r2)) :
 Calls Try.prog 44 #[.int .i64 a0, .slice A1 l1.length c1, .int .i64 a2, .int .i64 a3] w fun e w' => ∃ v0_ : Value, e = .returned (.tuple #[v0_, .int .i64 r2]) ∧ Kd.R k24 24 w' w.heap.size (fun _ => True) v0_ r1 ∧ Below w.heap.size w w' := by
 have e := Option.some.inj h
 unfold shiftedG at e
 by_cases hk : indexE a0 l1 a2 = 0
 · rw [if_pos hk] at e
   by_cases hb : -1000000 ≤ a3 ∧ a3 ≤ 1000000
   · rw [if_pos hb] at e
     obtain ⟨h1, _, _, _⟩ := check_ok (indexE_ok hk).1
     obtain ⟨n, rfl⟩ : ∃ m : Nat, a0 = m := ⟨a0.toNat, by omega⟩
     have hh := shift_ok n A1 c1 l1 a2 a3 w hr1 hc1 hk hb
     rw [e] at hh
     exact hh
   · rw [if_neg hb] at e
     cases e
     exact (shift_far a0 A1 c1 l1 a2 a3 w hr1 hc1 hk hb).mono fun e w' h => ⟨_, h.1, Kd.R_nil _ _ _ _ _, h.2⟩
 · rw [if_neg hk] at e
   cases e
   exact (shift_err a0 A1 c1 l1 a2 a3 w hr1 hc1 hk).mono fun e w' h => ⟨_, h.1, Kd.R_nil _ _ _ _ _, h.2⟩
def prove_Turned.f (a0 : Int) (l1 : List S24) (a2 : Int) : Option (List S24 × Int) := some (turnedG a0 l1 a2)
theorem prove_Turned.calls (a0 : Int) (A1 : Option Addr) (c1 : Nat) (l1 : List S24) (a2 : Int) (r1 : List S24) (r2 : Int) (w : World) (hr1 : Kd.C k24 w A1 l1.length l1) (hc1 : l1.length ≤ c1) (h : prove_Turned.f a0 l1 a2 = some (r1, r2)) :
 Calls Try.prog 46 #[.int .i64 a0, .slice A1 l1.length c1, .int .i64 a2] w fun e w' => ∃ v0_ : Value, e = .returned (.tuple #[v0_, .int .i64 r2]) ∧ Kd.R k24 24 w' w.heap.size (fun _ => True) v0_ r1 ∧ Below w.heap.size w w' := by
 have e := Option.some.inj h
 unfold turnedG at e
 by_cases hk : indexE a0 l1 a2 = 0
 · rw [if_pos hk] at e
   obtain ⟨h1, _, _, _⟩ := check_ok (indexE_ok hk).1
   obtain ⟨n, rfl⟩ : ∃ m : Nat, a0 = m := ⟨a0.toNat, by omega⟩
   have hh := turn_ok n A1 c1 l1 a2 w hr1 hc1 hk
   rw [e] at hh
   exact hh
 · rw [if_neg hk] at e
   cases e
   exact (turn_err a0 A1 c1 l1 a2 w hr1 hc1 hk).mono fun e w' h => ⟨_, h.1, Kd.R_nil _ _ _ _ _, h.2⟩
end Go.Proofs.Ytmoiickbgokloaa.PA
