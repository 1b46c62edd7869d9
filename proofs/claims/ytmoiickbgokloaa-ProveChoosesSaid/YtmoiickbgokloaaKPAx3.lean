/- Words and walks that the kit's printer wrote for this claim, less what the proofs do not use. -/
import Derived.Test.YtmoiickbgokloaaKPAx0
import Derived.Test.YtmoiickbgokloaaKPAx2
namespace Go.Proofs.Ytmoiickbgokloaa.PA
open Go.RowKit Go.Proofs.YtmoiickbgokloaaW.PrintWords Go.Proofs.YtmoiickbgokloaaW.PrintLast Go.Proofs.YtmoiickbgokloaaW.PrintMore
attribute [local go_sem] max2_int min2_int max_two min_two max_three min_three max_four min_four   -- for this text's walks alone
set_option linter.unusedVariables false
set_option linter.unusedSimpArgs false
def cosignerref12_right.f (a0 : Int) (a1_0 : Int) (a1_1 : Int) (a1_2 : Int) (a1_3 : Int) (a1_4 : Int) : Option (Bool) := (cosignerref12_in.f a1_0 0 (wrap64 (a0 - 1))).bind fun t115 => (if t115 = true then (if a1_1 = 1 then ((cosignerref12_in.f a1_4 (-1000000) 1000000).bind fun t116 => (if a1_3 = 0 then (if t116 = true then (some (a1_2 == 0)) else (some false)) else ((cosignerref12_in.f a1_2 0 (wrap64 (a0 - 1))).bind fun t117 => (if t117 = true then (if a1_3 = 1 then (if t116 = true then (some (a1_0 != a1_2)) else (some false)) else (if a1_3 = (-1) then (if t116 = true then (some (a1_0 != a1_2)) else (some false)) else (if t116 = true then (some false) else (some false)))) else (if t116 = true then (some false) else (some false)))))) else (if a1_1 = (-1) then ((cosignerref12_in.f a1_4 (-1000000) 1000000).bind fun t118 => (if a1_3 = 0 then (if t118 = true then (some (a1_2 == 0)) else (some false)) else ((cosignerref12_in.f a1_2 0 (wrap64 (a0 - 1))).bind fun t119 => (if t119 = true then (if a1_3 = 1 then (if t118 = true then (some (a1_0 != a1_2)) else (some false)) else (if a1_3 = (-1) then (if t118 = true then (some (a1_0 != a1_2)) else (some false)) else (if t118 = true then (some false) else (some false)))) else (if t118 = true then (some false) else (some false)))))) else (if a1_3 = 0 then (some false) else ((cosignerref12_in.f a1_2 0 (wrap64 (a0 - 1))).bind fun t120 => (if t120 = true then (if a1_3 = 1 then (some false) else (if a1_3 = (-1) then (some false) else (some false))) else (some false)))))) else (if a1_3 = 0 then (some false) else ((cosignerref12_in.f a1_2 0 (wrap64 (a0 - 1))).bind fun t121 => (if t121 = true then (if a1_3 = 1 then (some false) else (if a1_3 = (-1) then (some false) else (some false))) else (some false)))))
set_option maxHeartbeats 8000000 in
set_option maxRecDepth 100000 in
theorem cosignerref12_right.calls (a0 : Int) (a1_0 : Int) (a1_1 : Int) (a1_2 : Int) (a1_3 : Int) (a1_4 : Int) (r : Bool) (w : World) (h : cosignerref12_right.f a0 a1_0 a1_1 a1_2 a1_3 a1_4 = some r) :
 Calls Try.prog 76 #[.int .i64 a0, .agg #[.int .i64 a1_0, .int .i64 a1_1, .int .i64 a1_2, .int .i64 a1_3, .int .i64 a1_4]] w fun e w' => e = .returned (.bool r) ∧ Below w.heap.size w w' := by
 have hu24 := Try.underlying24
 have hf : ∀ x lo hi : Int, cosignerref12_in.f x lo hi = some (decide (lo ≤ x) && decide (x ≤ hi)) := fun x lo hi => by
  unfold cosignerref12_in.f
  by_cases h : lo ≤ x
  · rw [if_pos h]; simp [h]
  · rw [if_neg h]; simp [h]
 have HIN : Aside0 (∀ x lo hi w, Calls Try.prog 64 #[.int .i64 x, .int .i64 lo, .int .i64 hi] w fun e w' => e = .returned (.bool (decide (lo ≤ x) && decide (x ≤ hi))) ∧ Drawn0 w w') := ⟨fun x lo hi w => cosignerref12_in.calls x lo hi _ w (hf x lo hi)⟩
 unfold cosignerref12_right.f at h
 simp only [hf, Option.bind_some] at h
 obtain ⟨A, hA⟩ : ∃ A, (decide (0 ≤ a1_0) && decide (a1_0 ≤ wrap64 (a0 - 1))) = A := ⟨_, rfl⟩
 obtain ⟨E, hE⟩ : ∃ A, (decide (-1000000 ≤ a1_4) && decide (a1_4 ≤ 1000000)) = A := ⟨_, rfl⟩
 obtain ⟨C, hC⟩ : ∃ A, (decide (0 ≤ a1_2) && decide (a1_2 ≤ wrap64 (a0 - 1))) = A := ⟨_, rfl⟩
 simp only [hA, hE, hC] at h
 have EA := Aside0.mk hA
 have EE := Aside0.mk hE
 have EC := Aside0.mk hC
 have HH := Aside0.mk h
 clear hA hE hC hf h
 obtain ⟨b1, h1⟩ : ∃ b, (a1_1 == 1) = b := ⟨_, rfl⟩
 obtain ⟨b2, h2⟩ : ∃ b, (a1_1 == -1) = b := ⟨_, rfl⟩
 obtain ⟨d0, h3⟩ : ∃ b, (a1_3 == 0) = b := ⟨_, rfl⟩
 obtain ⟨d1, h4⟩ : ∃ b, (a1_3 == 1) = b := ⟨_, rfl⟩
 obtain ⟨d2, h5⟩ : ∃ b, (a1_3 == -1) = b := ⟨_, rfl⟩
 have hr : r = if d0 = true then (A && (b1 || b2) && E && (a1_2 == 0)) else (A && (b1 || b2) && E && (C && (d1 || d2) && (a1_0 != a1_2))) := by
  have h := HH.out
  subst h1 h2 h3 h4 h5
  revert h
  by_cases q1 : a1_1 = 1 <;> by_cases q2 : a1_1 = -1 <;> by_cases q3 : a1_3 = 0 <;> by_cases q4 : a1_3 = 1 <;> by_cases q5 : a1_3 = -1 <;> simp only [q1, q2, q3, q4, q5] <;> cases A <;> cases E <;> cases C <;> simp_all <;> omega
 rw [hr]
 clear hr HH
 have key1 : ∀ A b1 b2 E : Bool, A = false ∨ (A = true ∧ b1 = true ∧ E = false) ∨ (A = true ∧ b1 = true ∧ E = true) ∨ (A = true ∧ b1 = false ∧ b2 = true ∧ E = false) ∨ (A = true ∧ b1 = false ∧ b2 = true ∧ E = true) ∨ (A = true ∧ b1 = false ∧ b2 = false) := by decide
 have key2 : ∀ d0 C d1 d2 : Bool, d0 = true ∨ (d0 = false ∧ C = false) ∨ (d0 = false ∧ C = true ∧ d1 = true) ∨ (d0 = false ∧ C = true ∧ d1 = false ∧ d2 = true) ∨ (d0 = false ∧ C = true ∧ d1 = false ∧ d2 = false) := by decide
 rcases key1 A b1 b2 E with rfl | ⟨rfl, rfl, rfl⟩ | ⟨rfl, rfl, rfl⟩ | ⟨rfl, rfl, rfl, rfl⟩ | ⟨rfl, rfl, rfl, rfl⟩ | ⟨rfl, rfl, rfl⟩ <;> rcases key2 d0 C d1 d2 with rfl | ⟨rfl, rfl⟩ | ⟨rfl, rfl, rfl⟩ | ⟨rfl, rfl, rfl, rfl⟩ | ⟨rfl, rfl, rfl, rfl⟩
 all_goals (go_enter Try.func76, Try.ntmps76)
 all_goals (go_wp2_with (go_at_call 64; refine (HIN.out _ _ _ _).mono ?_; rintro e wx ⟨rfl, ⟨nd, rfl⟩⟩; simp only [i64_w]; first | rw [EA.out] | rw [EE.out] | rw [EC.out]))
 all_goals go_ret
 all_goals exact ⟨by simp, by repeat (first | exact Below.refl _ _ | apply below_alloc | apply pw_below_drewN)⟩
def cosignerref12_Check.l0 : Nat → Int → List (S24) → Int → Option (Int)
 | 0, _, _, _ => none
 | k + 1, x0, x1, x6 => if x6 < (x1.length : Int) then (if 0 ≤ x6 then ((cosignerref12_right.f x0 ((rd_T24 x1 x6).f0) ((rd_T24 x1 x6).f1) ((rd_T24 x1 x6).f2) ((rd_T24 x1 x6).f3) ((rd_T24 x1 x6).f4)).bind fun t124 => (if t124 = true then (cosignerref12_Check.l0 k x0 x1 (wrap64 (x6 + 1))) else (some 1))) else (none)) else (some 0)
def cosignerref12_Check.f (k : Nat) (a0 : Int) (l1 : List (S24)) : Option (Int) := (cosignerref12_in.f a0 1 12).bind fun t122 => (if t122 = true then (if (l1.length : Int) > 40 then (some 3) else (cosignerref12_Check.l0 k a0 l1 0)) else (some 1))
set_option maxHeartbeats 8000000 in
set_option maxRecDepth 100000 in
theorem cosignerref12_Check.calls (k : Nat) (a0 : Int) (A1 : Option Addr) (c1 : Nat) (l1 : List (S24)) (r : Int) (w : World) (hr1 : Kd.C k24 w A1 l1.length l1) (hc1 : l1.length ≤ c1) (h : cosignerref12_Check.f k a0 l1 = some r) :
 Calls Try.prog 32 #[.int .i64 a0, .slice A1 l1.length c1] w fun e w' => e = .returned (.int .i64 r) ∧ Below w.heap.size w w' := by
 have hu24 := Try.underlying24
 have HR1 := Aside0.mk hr1
 have HC1 := Aside0.mk hc1
 clear hr1 hc1
 have HB := Aside0.mk (Below.refl w.heap.size w)
 have H : ((cosignerref12_in.f a0 1 12).bind fun t122 => (if t122 = true then (if (l1.length : Int) > 40 then (some 3) else (cosignerref12_Check.l0 k a0 l1 0)) else (some 1))) = some r := h
 clear h
 replace H := Option.bind_eq_some_iff.mp H
 obtain ⟨t122, A30, H⟩ := H
 replace H : (if t122 = true then (if (l1.length : Int) > 40 then (some 3) else (cosignerref12_Check.l0 k a0 l1 0)) else (some 1)) = some r := H
 have A3 := Aside0.mk A30
 clear A30
 by_cases c4 : t122 = true
 · subst c4
   have H1 : (if (l1.length : Int) > 40 then (some 3) else (cosignerref12_Check.l0 k a0 l1 0)) = some r := by rw [if_pos rfl] at H; exact H
   clear H
   have H := H1
   clear H1
   by_cases c5 : (l1.length : Int) > 40
   · rw [if_pos c5] at H
     have c5b0 : decide (40 < (l1.length : Int)) = true := decide_eq_true c5
     have c5b1 : decide (40 < l1.length) = true := decide_eq_true (by omega)
     clear c5
     obtain rfl := Option.some.inj H
     go_enter Try.func32, Try.ntmps32
     go_wp2_with (first | ((with_reducible refine gate_callee (f := 64) rfl ?_); refine goesL_ (some 9) rfl rfl Try.func64 (by kernel_rfl) rfl #[.int .i64 a0, .int .i64 1, .int .i64 12] rfl (by (try simp only [List.map_toArray, List.map_cons, List.map_nil]); first | done | rfl | (simp only [List.length_drop, List.length_take]; rfl)) ?_; (with_reducible refine (cosignerref12_in.calls a0 1 12 true _ A3.out).mono ?_); rintro e w' ⟨rfl, ⟨nd, rfl⟩⟩; refine ⟨_, rfl, ?_⟩))
     go_ret
     exact ⟨by first | rfl | (simp [errW_none, errW_some] <;> rfl) | (simp [*, errW_none, errW_some] <;> rfl), by repeat (first | (with_reducible first | exact HB.out | apply below_alloc | apply pw_below_drewN | apply below_drew1) | exact HB.out)⟩
   · rw [if_neg c5] at H
     have c5b0 : decide (40 < (l1.length : Int)) = false := decide_eq_false c5
     have c5b1 : decide (40 < l1.length) = false := decide_eq_false (by omega)
     clear c5
     have H' := Aside0.mk H
     clear H
     go_enter Try.func32, Try.ntmps32
     go_wp2_with (first | ((with_reducible refine gate_callee (f := 64) rfl ?_); refine goesL_ (some 9) rfl rfl Try.func64 (by kernel_rfl) rfl #[.int .i64 a0, .int .i64 1, .int .i64 12] rfl (by (try simp only [List.map_toArray, List.map_cons, List.map_nil]); first | done | rfl | (simp only [List.length_drop, List.length_take]; rfl)) ?_; (with_reducible refine (cosignerref12_in.calls a0 1 12 true _ A3.out).mono ?_); rintro e w' ⟨rfl, ⟨nd, rfl⟩⟩; refine ⟨_, rfl, ?_⟩))
     go_loopg [6] k (fun kq v6 w' => ∃ (x6_1 : Int), v6 = .int .i64 x6_1 ∧ Aside0 (cosignerref12_Check.l0 kq a0 l1 x6_1 = some r) ∧ Aside0 (kq ≤ k) ∧ Aside0 (Below w.heap.size w w'))
     case atStart => exact ⟨(0), (by first | rfl | (simp; done) | (simp [*]; done)), H', ⟨Nat.le_refl _⟩, ⟨by repeat (first | (with_reducible first | exact HB.out | apply below_alloc | apply pw_below_drewN | apply below_drew1) | exact HB.out)⟩⟩
     case round =>
      clear H'
      try clear c1
      try clear p2
      try clear c3
      try clear c4
      try clear c5
      try clear c5b0
      try clear c5b1
      obtain ⟨x6_1, rfl, HA, HK1, HB⟩ := hrel
      cases gk with
      | zero => exact absurd HA.out (by simp [cosignerref12_Check.l0])
      | succ k1 =>
       have H := HA.out
       clear HA
       simp only [cosignerref12_Check.l0] at H
       by_cases c6 : x6_1 < (l1.length : Int)
       · rw [if_pos c6] at H
         have c6b0 : decide (x6_1 < (l1.length : Int)) = true := decide_eq_true c6
         clear c6
         by_cases c7 : 0 ≤ x6_1
         · rw [if_pos c7] at H
           have c7b0 : decide (0 ≤ x6_1) = true := decide_eq_true c7
           clear c7
           replace H := Option.bind_eq_some_iff.mp H
           obtain ⟨t124, A80, H⟩ := H
           replace H : (if t124 = true then (cosignerref12_Check.l0 k1 a0 l1 (wrap64 (x6_1 + 1))) else (some 1)) = some r := H
           have A8 := Aside0.mk A80
           clear A80
           by_cases c9 : t124 = true
           · subst c9
             have H1 : (cosignerref12_Check.l0 k1 a0 l1 (wrap64 (x6_1 + 1))) = some r := by rw [if_pos rfl] at H; exact H
             clear H
             have H := H1
             clear H1
             have H' := Aside0.mk H
             clear H
             have p123 : 0 ≤ (x6_1 : Int) := of_decide_eq_true (by first | (with_reducible assumption) | assumption)
             have q123 : x6_1 < (l1.length : Int) := of_decide_eq_true (by first | (with_reducible assumption) | assumption)
             obtain ⟨ad123, e123, hx123_0, hx123_1, hx123_2, hx123_3, hx123_4⟩ := at_T24 HR1.out x6_1 p123 q123
             cases e123
             replace hx123_0 := (HB.out.cell (World.block_lt_of_cell? w _ hx123_0)).trans hx123_0
             replace hx123_1 := (HB.out.cell (World.block_lt_of_cell? w _ hx123_1)).trans hx123_1
             replace hx123_2 := (HB.out.cell (World.block_lt_of_cell? w _ hx123_2)).trans hx123_2
             replace hx123_3 := (HB.out.cell (World.block_lt_of_cell? w _ hx123_3)).trans hx123_3
             replace hx123_4 := (HB.out.cell (World.block_lt_of_cell? w _ hx123_4)).trans hx123_4
             replace p123 := eq_true p123
             replace q123 := eq_true q123
             go_wp2_with (first | ((with_reducible refine gate_callee (f := 76) rfl ?_); refine goesL_ (some 26) rfl rfl Try.func76 (by kernel_rfl) rfl #[.int .i64 a0, .agg #[.int .i64 ((rd_T24 l1 x6_1).f0), .int .i64 ((rd_T24 l1 x6_1).f1), .int .i64 ((rd_T24 l1 x6_1).f2), .int .i64 ((rd_T24 l1 x6_1).f3), .int .i64 ((rd_T24 l1 x6_1).f4)]] rfl (by (try simp only [List.map_toArray, List.map_cons, List.map_nil]); first | done | rfl | (simp only [List.length_drop, List.length_take]; rfl)) ?_; (with_reducible refine (cosignerref12_right.calls a0 ((rd_T24 l1 x6_1).f0) ((rd_T24 l1 x6_1).f1) ((rd_T24 l1 x6_1).f2) ((rd_T24 l1 x6_1).f3) ((rd_T24 l1 x6_1).f4) true _ A8.out).mono ?_); rintro e w10 ⟨rfl, hb⟩; refine ⟨_, rfl, ?_⟩; have n0_ := Aside0.mk (below_step (by repeat (first | (with_reducible first | exact HB.out | apply below_alloc | apply pw_below_drewN | apply below_drew1) | exact HB.out)) hb); clear HB; have HB := n0_; clear n0_; (try clear hb); (try clear hb2); (try clear hk); (try clear hi)))
             go_roundg k1
             case measure => have := HK1.out; omega
             case rel => exact ⟨(wrap64 (x6_1 + 1)), (by first | rfl | (simp; done) | (simp [*]; done)), H', ⟨by have := HK1.out; omega⟩, ⟨by repeat (first | (with_reducible first | exact HB.out | apply below_alloc | apply pw_below_drewN | apply below_drew1) | exact HB.out)⟩⟩
           · replace c9 := Bool.eq_false_iff.mpr c9
             subst c9
             have H1 : (some 1) = some r := by rw [if_neg (show ¬ (false = true) by decide)] at H; exact H
             clear H
             have H := H1
             clear H1
             obtain rfl := Option.some.inj H
             have p123 : 0 ≤ (x6_1 : Int) := of_decide_eq_true (by first | (with_reducible assumption) | assumption)
             have q123 : x6_1 < (l1.length : Int) := of_decide_eq_true (by first | (with_reducible assumption) | assumption)
             obtain ⟨ad123, e123, hx123_0, hx123_1, hx123_2, hx123_3, hx123_4⟩ := at_T24 HR1.out x6_1 p123 q123
             cases e123
             replace hx123_0 := (HB.out.cell (World.block_lt_of_cell? w _ hx123_0)).trans hx123_0
             replace hx123_1 := (HB.out.cell (World.block_lt_of_cell? w _ hx123_1)).trans hx123_1
             replace hx123_2 := (HB.out.cell (World.block_lt_of_cell? w _ hx123_2)).trans hx123_2
             replace hx123_3 := (HB.out.cell (World.block_lt_of_cell? w _ hx123_3)).trans hx123_3
             replace hx123_4 := (HB.out.cell (World.block_lt_of_cell? w _ hx123_4)).trans hx123_4
             replace p123 := eq_true p123
             replace q123 := eq_true q123
             go_wp2_with (first | ((with_reducible refine gate_callee (f := 76) rfl ?_); refine goesL_ (some 26) rfl rfl Try.func76 (by kernel_rfl) rfl #[.int .i64 a0, .agg #[.int .i64 ((rd_T24 l1 x6_1).f0), .int .i64 ((rd_T24 l1 x6_1).f1), .int .i64 ((rd_T24 l1 x6_1).f2), .int .i64 ((rd_T24 l1 x6_1).f3), .int .i64 ((rd_T24 l1 x6_1).f4)]] rfl (by (try simp only [List.map_toArray, List.map_cons, List.map_nil]); first | done | rfl | (simp only [List.length_drop, List.length_take]; rfl)) ?_; (with_reducible refine (cosignerref12_right.calls a0 ((rd_T24 l1 x6_1).f0) ((rd_T24 l1 x6_1).f1) ((rd_T24 l1 x6_1).f2) ((rd_T24 l1 x6_1).f3) ((rd_T24 l1 x6_1).f4) false _ A8.out).mono ?_); rintro e w11 ⟨rfl, hb⟩; refine ⟨_, rfl, ?_⟩; have n0_ := Aside0.mk (below_step (by repeat (first | (with_reducible first | exact HB.out | apply below_alloc | apply pw_below_drewN | apply below_drew1) | exact HB.out)) hb); clear HB; have HB := n0_; clear n0_; (try clear hb); (try clear hb2); (try clear hk); (try clear hi)))
             go_ret
             exact ⟨by first | rfl | (simp [errW_none, errW_some] <;> rfl) | (simp [*, errW_none, errW_some] <;> rfl), by repeat (first | (with_reducible first | exact HB.out | apply below_alloc | apply pw_below_drewN | apply below_drew1) | exact HB.out)⟩
         · rw [if_neg c7] at H
           exact absurd H (by simp)
       · rw [if_neg c6] at H
         have c6b0 : decide (x6_1 < (l1.length : Int)) = false := decide_eq_false c6
         clear c6
         obtain rfl := Option.some.inj H
         go_wp2
         go_ret
         exact ⟨by first | rfl | (simp [errW_none, errW_some] <;> rfl) | (simp [*, errW_none, errW_some] <;> rfl), by repeat (first | (with_reducible first | exact HB.out | apply below_alloc | apply pw_below_drewN | apply below_drew1) | exact HB.out)⟩
 · replace c4 := Bool.eq_false_iff.mpr c4
   subst c4
   have H1 : (some 1) = some r := by rw [if_neg (show ¬ (false = true) by decide)] at H; exact H
   clear H
   have H := H1
   clear H1
   obtain rfl := Option.some.inj H
   go_enter Try.func32, Try.ntmps32
   go_wp2_with (first | ((with_reducible refine gate_callee (f := 64) rfl ?_); refine goesL_ (some 9) rfl rfl Try.func64 (by kernel_rfl) rfl #[.int .i64 a0, .int .i64 1, .int .i64 12] rfl (by (try simp only [List.map_toArray, List.map_cons, List.map_nil]); first | done | rfl | (simp only [List.length_drop, List.length_take]; rfl)) ?_; (with_reducible refine (cosignerref12_in.calls a0 1 12 false _ A3.out).mono ?_); rintro e w' ⟨rfl, ⟨nd, rfl⟩⟩; refine ⟨_, rfl, ?_⟩))
   go_ret
   exact ⟨by first | rfl | (simp [errW_none, errW_some] <;> rfl) | (simp [*, errW_none, errW_some] <;> rfl), by repeat (first | (with_reducible first | exact HB.out | apply below_alloc | apply pw_below_drewN | apply below_drew1) | exact HB.out)⟩
def cosignerref12_half.f (a0 : Int) : Option (Int) := if a0 < 0 then (some (wrap64 (-(wrap64 (Int.tdiv (wrap64 (1 - a0)) 2))))) else (some (wrap64 (Int.tdiv a0 2)))
set_option maxHeartbeats 8000000 in
set_option maxRecDepth 100000 in
theorem cosignerref12_half.calls (a0 : Int) (r : Int) (w : World) (h : cosignerref12_half.f a0 = some r) :
 Calls Try.prog 104 #[.int .i64 a0] w fun e w' => e = .returned (.int .i64 r) ∧ Drawn0 w w' := by
 have H : (if a0 < 0 then (some (wrap64 (-(wrap64 (Int.tdiv (wrap64 (1 - a0)) 2))))) else (some (wrap64 (Int.tdiv a0 2)))) = some r := h
 clear h
 by_cases c2 : a0 < 0
 · rw [if_pos c2] at H
   have c2b0 : decide (a0 < 0) = true := decide_eq_true c2
   clear c2
   obtain rfl := Option.some.inj H
   go_enter Try.func104, Try.ntmps104
   go_wp2
   go_ret
   exact ⟨by first | rfl | (simp; done) | (simp [*]; done), by repeat (first | exact Drawn0.refl _ | apply Drawn0.step)⟩
 · rw [if_neg c2] at H
   have c2b0 : decide (a0 < 0) = false := decide_eq_false c2
   clear c2
   obtain rfl := Option.some.inj H
   go_enter Try.func104, Try.ntmps104
   go_wp2
   go_ret
   exact ⟨by first | rfl | (simp; done) | (simp [*]; done), by repeat (first | exact Drawn0.refl _ | apply Drawn0.step)⟩
end Go.Proofs.Ytmoiickbgokloaa.PA
