/- Words and walks that the kit's printer wrote for this claim, less what the proofs do not use. -/
import Derived.Test.YtmoiickbgokloaaEPAx0
import Derived.Test.YtmoiickbgokloaaEPAx2
import Derived.Test.YtmoiickbgokloaaEPAx3
namespace Go.Proofs.Ytmoiickbgokloaa.PA
open Go.RowKit Go.Proofs.YtmoiickbgokloaaW.PrintWords Go.Proofs.YtmoiickbgokloaaW.PrintLast Go.Proofs.YtmoiickbgokloaaW.PrintMore
attribute [local go_sem] max2_int min2_int max_two min_two max_three min_three max_four min_four   -- for this text's walks alone
set_option linter.unusedVariables false
set_option linter.unusedSimpArgs false
mutual
def cosignerref12_step.j4 : Nat → Int → List Int → Int → Option (List Int × Int × Bool)
 | 0, _, _, _ => none
 | k + 1, x0, x131000, x131001 => (cosignerref12_in.f x131001 (-1125899906842624) 1125899906842624).bind fun t154 => (cosignerref12_step.l2 k x0 t154 0 x131000 x131001)
def cosignerref12_step.l2 : Nat → Int → Bool → Int → List Int → Int → Option (List Int × Int × Bool)
 | 0, _, _, _, _, _ => none
 | k + 1, x0, x18, x19, x131000, x131001 => if x19 < x0 then (if 0 ≤ x19 then (if x19 < (x131000.length : Int) then ((cosignerref12_in.f (rd x131000 x19) (-100) 100).bind fun t156 => (if x18 = true then (cosignerref12_step.l2 k x0 t156 (wrap64 (x19 + 1)) x131000 x131001) else (cosignerref12_step.l2 k x0 false (wrap64 (x19 + 1)) x131000 x131001))) else (none)) else (none)) else (some (x131000, x131001, x18))
def cosignerref12_step.j0 : Nat → Int → List (S128) → Bool → Int → Int → Int → List Int → Int → Option (List Int × Int × Bool)
 | 0, _, _, _, _, _, _, _, _ => none
 | k + 1, x0, x2, x91, x126000, x126001, x126002, x131000, x131001 => if x91 = true then (some (([] : List Int), 0, false)) else (cosignerref12_step.l0 k x0 x2 0 x126000 x126001 x126002 x131000 x131001)
def cosignerref12_step.l0 : Nat → Int → List (S128) → Int → Int → Int → Int → List Int → Int → Option (List Int × Int × Bool)
 | 0, _, _, _, _, _, _, _, _ => none
 | k + 1, x0, x2, x15, x126000, x126001, x126002, x131000, x131001 => if x15 < x0 then (if 0 ≤ x126001 then (if x126001 < (x2.length : Int) then (if 0 ≤ x15 then (if x15 < (((rd_T128 x2 x126001).f0).length : Int) then (if 0 ≤ x126002 then (if x126002 < (x2.length : Int) then (if x15 < (((rd_T128 x2 x126002).f0).length : Int) then (if x15 < (x131000.length : Int) then (cosignerref12_step.l0 k x0 x2 (wrap64 (x15 + 1)) x126000 x126001 x126002 (x131000.set (x15 : Int).toNat (wrap64 ((rd ((rd_T128 x2 x126001).f0) x15) + (rd ((rd_T128 x2 x126002).f0) x15)))) x131001) else (none)) else (none)) else (none)) else (none)) else (none)) else (none)) else (none)) else (none)) else (if 0 ≤ x126001 then (if x126001 < (x2.length : Int) then (if 0 ≤ x126002 then (if x126002 < (x2.length : Int) then (cosignerref12_step.j4 k x0 x131000 (wrap64 (((rd_T128 x2 x126001).f1) + ((rd_T128 x2 x126002).f1)))) else (none)) else (none)) else (none)) else (none))
def cosignerref12_step.j2 : Nat → Int → List (S128) → Bool → Int → Int → Int → List Int → Int → Option (List Int × Int × Bool)
 | 0, _, _, _, _, _, _, _, _ => none
 | k + 1, x0, x2, x149, x126000, x126001, x126002, x131000, x131001 => if x149 = true then (some (([] : List Int), 0, false)) else (cosignerref12_step.l1 k x0 x2 0 x126000 x126001 x126002 x131000 x131001)
def cosignerref12_step.l1 : Nat → Int → List (S128) → Int → Int → Int → Int → List Int → Int → Option (List Int × Int × Bool)
 | 0, _, _, _, _, _, _, _, _ => none
 | k + 1, x0, x2, x17, x126000, x126001, x126002, x131000, x131001 => if x17 < x0 then (if 0 ≤ x126001 then (if x126001 < (x2.length : Int) then (if 0 ≤ x17 then (if x17 < (((rd_T128 x2 x126001).f0).length : Int) then (if (Int.tmod (rd ((rd_T128 x2 x126001).f0) x17) 2) = 0 then (if x17 < (x131000.length : Int) then (cosignerref12_step.l1 k x0 x2 (wrap64 (x17 + 1)) x126000 x126001 x126002 (x131000.set (x17 : Int).toNat (wrap64 (Int.tdiv (rd ((rd_T128 x2 x126001).f0) x17) 2))) x131001) else (none)) else (some (([] : List Int), 0, false))) else (none)) else (none)) else (none)) else (none)) else (if 0 ≤ x126001 then (if x126001 < (x2.length : Int) then ((cosignerref12_half.f ((rd_T128 x2 x126001).f1)).bind fun t153 => (cosignerref12_step.j4 k x0 x131000 t153)) else (none)) else (none))
end
def cosignerref12_step.f (k : Nat) (a0 : Int) (l1 : List (S24)) (l2 : List (S128)) (a3_0 : Int) (a3_1 : Int) (a3_2 : Int) : Option (List Int × Int × Bool) := if 0 ≤ a0 then (if (a0 : Int).toNat ≤ 35184372088832 then ((some (List.replicate (a0 : Int).toNat 0 : List Int)).bind fun y127 => (if a3_0 = 1 then ((cosignerref12_in.f a3_1 0 (wrap64 ((l1.length : Int) - 1))).bind fun t131 => (if t131 = true then (if a3_2 = 0 then (if 0 ≤ a3_1 then (if a3_1 < (l1.length : Int) then (if 0 ≤ ((rd_T24 l1 a3_1).f0) then (if ((rd_T24 l1 a3_1).f0) < (y127.length : Int) then ((some (y127.set (((rd_T24 l1 a3_1).f0) : Int).toNat ((rd_T24 l1 a3_1).f1) : List Int)).bind fun y134 => (if 0 ≤ ((rd_T24 l1 a3_1).f2) then (if ((rd_T24 l1 a3_1).f2) < (y127.length : Int) then (cosignerref12_step.j4 k a0 (y134.set (((rd_T24 l1 a3_1).f2) : Int).toNat (wrap64 ((rd y134 ((rd_T24 l1 a3_1).f2)) + ((rd_T24 l1 a3_1).f3)))) ((rd_T24 l1 a3_1).f4)) else (none)) else (none))) else (none)) else (none)) else (none)) else (none)) else (some (([] : List Int), 0, false))) else (some (([] : List Int), 0, false)))) else (if a3_0 = 2 then ((cosignerref12_in.f a3_1 0 (wrap64 ((l2.length : Int) - 1))).bind fun t137 => ((cosignerref12_in.f a3_2 0 (wrap64 ((l2.length : Int) - 1))).bind fun t138 => (if t137 = true then (cosignerref12_step.j0 k a0 l2 (!t138) a3_0 a3_1 a3_2 y127 0) else (cosignerref12_step.j0 k a0 l2 true a3_0 a3_1 a3_2 y127 0)))) else (if a3_0 = 3 then ((cosignerref12_in.f a3_1 0 (wrap64 ((l2.length : Int) - 1))).bind fun t146 => (if t146 = true then (cosignerref12_step.j2 k a0 l2 (a3_2 != 0) a3_0 a3_1 a3_2 y127 0) else (cosignerref12_step.j2 k a0 l2 true a3_0 a3_1 a3_2 y127 0))) else (some (([] : List Int), 0, false)))))) else (none)) else (none)
def cosignerref12_step.T10 : Bool × List (List Nat × List Nat) := (true, [([], []), ([0], [0]), ([], []), ([2], [2]), ([], []), ([4], [4]), ([], []), ([6], [6]), ([5, 7], [5, 7]), ([8], [8]), ([], []), ([10], [10]), ([9, 11], [9, 11]), ([1, 3, 0, 1, 2, 3, 4, 5, 6, 7, 8, 9, 10, 11, 12], [1, 3]), ([13, 12, 0, 1, 2, 3, 4, 5, 6, 7, 8, 9, 10, 11, 12], [12, 13])])
def cosignerref12_step.B10 : List Nat := [0, 1, 0, 4, 0, 16, 0, 64, 240, 496, 0, 1024, 4080, 8191, 16383]
theorem cosignerref12_step.tab10 : rtab .any (opsOf Try.f111 10) = cosignerref12_step.T10 := by kernel_rfl
theorem cosignerref12_step.bits10 : waitsOk cosignerref12_step.T10.2 cosignerref12_step.B10 = true := by kernel_rfl
def cosignerref12_step.T20 : Bool × List (List Nat × List Nat) := (true, [([], []), ([0], [0]), ([], []), ([], []), ([], []), ([4], [4]), ([3, 5], [3, 5]), ([6], [6]), ([7], [7]), ([], []), ([8, 9], [8, 9]), ([10], [10]), ([], []), ([], []), ([13], [13]), ([12, 14], [12, 14]), ([15], [15]), ([16], [16]), ([], []), ([17, 18], [17, 18]), ([19], [19]), ([11, 20], [11, 20]), ([1, 2, 0, 1, 2, 3, 4, 5, 6, 7, 8, 9, 10, 11, 12, 13, 14, 15, 16, 17, 18, 19, 20, 21], [1, 2]), ([22, 21, 0, 1, 2, 3, 4, 5, 6, 7, 8, 9, 10, 11, 12, 13, 14, 15, 16, 17, 18, 19, 20, 21], [21, 22])])
def cosignerref12_step.B20 : List Nat := [0, 1, 0, 0, 0, 16, 56, 120, 248, 0, 1016, 2040, 0, 0, 8192, 28672, 61440, 126976, 0, 520192, 1044480, 2097144, 4194303, 8388607]
theorem cosignerref12_step.tab20 : rtab .any (opsOf Try.f111 20) = cosignerref12_step.T20 := by kernel_rfl
theorem cosignerref12_step.bits20 : waitsOk cosignerref12_step.T20.2 cosignerref12_step.B20 = true := by kernel_rfl
def cosignerref12_step.T21 : Bool × List (List Nat × List Nat) := (true, [([], []), ([], []), ([1], [1]), ([0, 2], [0, 2]), ([3], [3]), ([4], [4]), ([], []), ([], []), ([7], [7]), ([6, 8], [6, 8]), ([9], [9]), ([10], [10]), ([5, 11], [5, 11]), ([0, 1, 2, 3, 4, 5, 6, 7, 8, 9, 10, 11, 12], []), ([13, 12, 0, 1, 2, 3, 4, 5, 6, 7, 8, 9, 10, 11, 12], [12, 13])])
def cosignerref12_step.B21 : List Nat := [0, 0, 2, 7, 15, 31, 0, 0, 128, 448, 960, 1984, 4095, 8191, 16383]
theorem cosignerref12_step.tab21 : rtab .any (opsOf Try.f111 21) = cosignerref12_step.T21 := by kernel_rfl
theorem cosignerref12_step.bits21 : waitsOk cosignerref12_step.T21.2 cosignerref12_step.B21 = true := by kernel_rfl
def cosignerref12_step.T31 : Bool × List (List Nat × List Nat) := (true, [([], []), ([0], [0]), ([], []), ([], []), ([], []), ([4], [4]), ([3, 5], [3, 5]), ([6], [6]), ([7], [7]), ([], []), ([8, 9], [8, 9]), ([10], [10]), ([11], [11]), ([1, 2, 0, 1, 2, 3, 4, 5, 6, 7, 8, 9, 10, 11, 12], [1, 2]), ([13, 12, 0, 1, 2, 3, 4, 5, 6, 7, 8, 9, 10, 11, 12], [12, 13])])
def cosignerref12_step.B31 : List Nat := [0, 1, 0, 0, 0, 16, 56, 120, 248, 0, 1016, 2040, 4088, 8191, 16383]
theorem cosignerref12_step.tab31 : rtab .any (opsOf Try.f111 31) = cosignerref12_step.T31 := by kernel_rfl
theorem cosignerref12_step.bits31 : waitsOk cosignerref12_step.T31.2 cosignerref12_step.B31 = true := by kernel_rfl
set_option maxHeartbeats 8000000 in
set_option maxRecDepth 100000 in
theorem cosignerref12_step.calls (k : Nat) (a0 : Int) (A1 : Option Addr) (c1 : Nat) (l1 : List (S24)) (A2 : Option Addr) (c2 : Nat) (l2 : List (S128)) (a3_0 : Int) (a3_1 : Int) (a3_2 : Int) (r1 : List Int) (r2 : Int) (r3 : Bool) (w : World) (hr1 : Kd.C k24 w A1 l1.length l1) (hc1 : l1.length ≤ c1) (hr2 : Kd.C k128 w A2 l2.length l2) (hc2 : l2.length ≤ c2) (h : cosignerref12_step.f k a0 l1 l2 a3_0 a3_1 a3_2 = some (r1, r2, r3)) :
 Calls Try.prog 111 #[.int .i64 a0, .slice A1 l1.length c1, .slice A2 l2.length c2, .agg #[.int .i64 a3_0, .int .i64 a3_1, .int .i64 a3_2]] w fun e w' => ∃ v0_ : Value, e = .returned (.tuple #[.agg #[v0_, .int .i64 r2], .bool r3]) ∧ Kd.R (Kd.int .i64) 3 w' w.heap.size (fun _ => True) v0_ r1 ∧ Below w.heap.size w w' := by
 have hu166 := Try.underlying166
 have hu128 := Try.underlying128
 have hu24 := Try.underlying24
 have HR1 := Aside0.mk hr1
 have HC1 := Aside0.mk hc1
 clear hr1 hc1
 have HR2 := Aside0.mk hr2
 have HC2 := Aside0.mk hc2
 clear hr2 hc2
 have HB := Aside0.mk (Below.refl w.heap.size w)
 have H : (if 0 ≤ a0 then (if (a0 : Int).toNat ≤ 35184372088832 then ((some (List.replicate (a0 : Int).toNat 0 : List Int)).bind fun y127 => (if a3_0 = 1 then ((cosignerref12_in.f a3_1 0 (wrap64 ((l1.length : Int) - 1))).bind fun t131 => (if t131 = true then (if a3_2 = 0 then (if 0 ≤ a3_1 then (if a3_1 < (l1.length : Int) then (if 0 ≤ ((rd_T24 l1 a3_1).f0) then (if ((rd_T24 l1 a3_1).f0) < (y127.length : Int) then ((some (y127.set (((rd_T24 l1 a3_1).f0) : Int).toNat ((rd_T24 l1 a3_1).f1) : List Int)).bind fun y134 => (if 0 ≤ ((rd_T24 l1 a3_1).f2) then (if ((rd_T24 l1 a3_1).f2) < (y127.length : Int) then (cosignerref12_step.j4 k a0 (y134.set (((rd_T24 l1 a3_1).f2) : Int).toNat (wrap64 ((rd y134 ((rd_T24 l1 a3_1).f2)) + ((rd_T24 l1 a3_1).f3)))) ((rd_T24 l1 a3_1).f4)) else (none)) else (none))) else (none)) else (none)) else (none)) else (none)) else (some (([] : List Int), 0, false))) else (some (([] : List Int), 0, false)))) else (if a3_0 = 2 then ((cosignerref12_in.f a3_1 0 (wrap64 ((l2.length : Int) - 1))).bind fun t137 => ((cosignerref12_in.f a3_2 0 (wrap64 ((l2.length : Int) - 1))).bind fun t138 => (if t137 = true then (cosignerref12_step.j0 k a0 l2 (!t138) a3_0 a3_1 a3_2 y127 0) else (cosignerref12_step.j0 k a0 l2 true a3_0 a3_1 a3_2 y127 0)))) else (if a3_0 = 3 then ((cosignerref12_in.f a3_1 0 (wrap64 ((l2.length : Int) - 1))).bind fun t146 => (if t146 = true then (cosignerref12_step.j2 k a0 l2 (a3_2 != 0) a3_0 a3_1 a3_2 y127 0) else (cosignerref12_step.j2 k a0 l2 true a3_0 a3_1 a3_2 y127 0))) else (some (([] : List Int), 0, false)))))) else (none)) else (none)) = some (r1, r2, r3) := h
 clear h
 by_cases c5 : 0 ≤ a0
 · rw [if_pos c5] at H
   have c5b0 := eq_true c5
   have c5b1 : decide (0 ≤ a0) = true := decide_eq_true c5
   clear c5
   by_cases c6 : (a0 : Int).toNat ≤ 35184372088832
   · rw [if_pos c6] at H
     have c6b0 := eq_true c6
     have c6b1 : decide ((a0 : Int).toNat ≤ 35184372088832) = true := decide_eq_true c6
     clear c6
     obtain ⟨y127, hy127⟩ : ∃ y_ : List Int, y_ = (List.replicate (a0 : Int).toNat 0) := ⟨_, rfl⟩
     replace H : (if a3_0 = 1 then ((cosignerref12_in.f a3_1 0 (wrap64 ((l1.length : Int) - 1))).bind fun t131 => (if t131 = true then (if a3_2 = 0 then (if 0 ≤ a3_1 then (if a3_1 < (l1.length : Int) then (if 0 ≤ ((rd_T24 l1 a3_1).f0) then (if ((rd_T24 l1 a3_1).f0) < (y127.length : Int) then ((some (y127.set (((rd_T24 l1 a3_1).f0) : Int).toNat ((rd_T24 l1 a3_1).f1) : List Int)).bind fun y134 => (if 0 ≤ ((rd_T24 l1 a3_1).f2) then (if ((rd_T24 l1 a3_1).f2) < (y127.length : Int) then (cosignerref12_step.j4 k a0 (y134.set (((rd_T24 l1 a3_1).f2) : Int).toNat (wrap64 ((rd y134 ((rd_T24 l1 a3_1).f2)) + ((rd_T24 l1 a3_1).f3)))) ((rd_T24 l1 a3_1).f4)) else (none)) else (none))) else (none)) else (none)) else (none)) else (none)) else (some (([] : List Int), 0, false))) else (some (([] : List Int), 0, false)))) else (if a3_0 = 2 then ((cosignerref12_in.f a3_1 0 (wrap64 ((l2.length : Int) - 1))).bind fun t137 => ((cosignerref12_in.f a3_2 0 (wrap64 ((l2.length : Int) - 1))).bind fun t138 => (if t137 = true then (cosignerref12_step.j0 k a0 l2 (!t138) a3_0 a3_1 a3_2 y127 0) else (cosignerref12_step.j0 k a0 l2 true a3_0 a3_1 a3_2 y127 0)))) else (if a3_0 = 3 then ((cosignerref12_in.f a3_1 0 (wrap64 ((l2.length : Int) - 1))).bind fun t146 => (if t146 = true then (cosignerref12_step.j2 k a0 l2 (a3_2 != 0) a3_0 a3_1 a3_2 y127 0) else (cosignerref12_step.j2 k a0 l2 true a3_0 a3_1 a3_2 y127 0))) else (some (([] : List Int), 0, false))))) = some (r1, r2, r3) := by first | (rw [hy127]; with_reducible exact H) | (have H2_ := (Option.bind_some _ _).symm.trans H; rw [hy127]; with_reducible exact H2_) | (have H2_ := (Option.bind_some _ _).symm.trans H; with_reducible exact H2_) | with_reducible exact H | (rw [hy127]; exact H) | exact H
     have Ny127 := Aside0.mk hy127
     clear hy127
     have HC7 := Aside0.mk H
     clear H
     go_enter Try.func111, Try.ntmps111
     go_upto_block 0 with (first | ((with_reducible refine gate_dst (N := 7) rfl ?_); refine box_event ?hg (N := 7) ?hd (cs := #[.int .i64 a3_0, .int .i64 a3_1, .int .i64 a3_2]) (t := 166) ?hr ?_; (case hd => rfl); (case hg => rfl); (case hr => first | (go_simp; done) | (go_simp; rfl)); intro gb125 hg w8 hbox hb; have n0_ := Aside0.mk (below_step (by repeat (first | (with_reducible first | exact HB.out | apply below_alloc | apply pw_below_drewN | apply below_drew1) | exact HB.out)) hb); have n1_ := Aside0.mk (hbox); have n2_ := Aside0.mk ((by rw [hg]; exact (below_size (by repeat (first | (with_reducible first | exact HB.out | apply below_alloc | apply pw_below_drewN | apply below_drew1) | exact HB.out))) : w.heap.size ≤ gb125)); have n3_ := Aside0.mk ((by rw [hg]; exact (below_size (by repeat (first | (with_reducible first | exact HB.out | apply below_alloc | apply pw_below_drewN | apply below_drew1) | exact HB.out))) : w.heap.size ≤ gb125)); clear HB; have HB := n0_; have BK125 := n1_; have GW125 := n2_; have GE125 := n3_; clear n0_ n1_ n2_ n3_; clear hb hbox hg) | ((with_reducible refine gate_dst (N := 8) rfl ?_); refine box_event ?hg (N := 8) ?hd (cs := #[.slice none 0 0, .int .i64 0]) (t := 128) ?hr ?_; (case hd => rfl); (case hg => rfl); (case hr => first | (go_simp; done) | (go_simp; rfl)); intro gb126 hg w9 hbox hb; have n0_ := Aside0.mk (blk_below (g := gb125) (o := .cells #[.int .i64 a3_0, .int .i64 a3_1, .int .i64 a3_2] 166 (0, 0)) (by (with_reducible repeat (first | refine blk_drewN ?_ _ | refine blk_drew ?_ | refine blk_alloc ?_ _)); exact BK125.out) hb); have n1_ := Aside0.mk (below_step (by repeat (first | (with_reducible first | exact HB.out | apply below_alloc | apply pw_below_drewN | apply below_drew1 | refine below_set ?_ GE125.out) | exact HB.out)) hb); have n2_ := Aside0.mk (hbox); have n3_ := Aside0.mk ((by rw [hg]; exact (below_size (by repeat (first | (with_reducible first | exact HB.out | apply below_alloc | apply pw_below_drewN | apply below_drew1 | refine below_set ?_ GE125.out) | exact HB.out))) : w.heap.size ≤ gb126)); have n4_ := Aside0.mk ((by rw [hg]; exact (below_size (by repeat (first | (with_reducible first | exact HB.out | apply below_alloc | apply pw_below_drewN | apply below_drew1 | refine below_set ?_ GE125.out) | exact HB.out))) : w.heap.size ≤ gb126)); have n5_ := Aside0.mk ((by rw [hg]; exact Nat.ne_of_lt (blk_lt (g := gb125) (o := .cells #[.int .i64 a3_0, .int .i64 a3_1, .int .i64 a3_2] 166 (0, 0)) (by (with_reducible repeat (first | refine blk_drewN ?_ _ | refine blk_drew ?_ | refine blk_alloc ?_ _)); exact BK125.out)) : gb125 ≠ gb126)); have n6_ := Aside0.mk ((by rw [hg]; exact Nat.ne_of_gt (blk_lt (g := gb125) (o := .cells #[.int .i64 a3_0, .int .i64 a3_1, .int .i64 a3_2] 166 (0, 0)) (by (with_reducible repeat (first | refine blk_drewN ?_ _ | refine blk_drew ?_ | refine blk_alloc ?_ _)); exact BK125.out)) : gb126 ≠ gb125)); clear BK125; clear HB; have BK125 := n0_; have HB := n1_; have BK126 := n2_; have GW126 := n3_; have GE126 := n4_; have NB125_126 := n5_; have NB126_125 := n6_; clear n0_ n1_ n2_ n3_ n4_ n5_ n6_; clear hb hbox hg) | ((with_reducible refine gate_dst (N := 22) rfl ?_); refine Kd.R_make (Kd.int .i64) _ 3 rfl (N := 22) rfl 46 _ _ rfl a0 rfl rfl Try.underlying46 (.int .i64 0) 8 info3 rfl (by decide) (by omega) 0 (ok := fun _ => True) (okp := fun _ => True) rfl (fun _ hk => hk) trivial (of_decide_eq_true (by first | (with_reducible assumption) | assumption)) (Nat.le_trans (Nat.mul_le_mul_right _ (of_decide_eq_true (by first | (with_reducible assumption) | assumption) : a0.toNat ≤ 35184372088832)) (by omega)) (Below.refl _ _) (Nat.le_refl _) ?_; intro v128 w10 ho11 hb hg_ hnew_; clear hg_ hnew_; (first | rw [← Ny127.out] at ho11 | (simp only [Int.reduceToNat] at ho11; rw [← Ny127.out] at ho11)); have n0_ := Aside0.mk (Kd.R_lower ho11 (below_size (by repeat (first | (with_reducible first | exact HB.out | apply below_alloc | apply pw_below_drewN | apply below_drew1 | refine below_set ?_ GE125.out | refine below_set ?_ GE126.out) | exact HB.out)))); have n1_ := Aside0.mk (blk_below (g := gb125) (o := .cells #[.int .i64 a3_0, .int .i64 a3_1, .int .i64 a3_2] 166 (0, 0)) (by (with_reducible repeat (first | refine blk_drewN ?_ _ | refine blk_drew ?_ | refine blk_alloc ?_ _)); exact BK125.out) hb); have n2_ := Aside0.mk (blk_below (g := gb126) (o := .cells #[.slice none 0 0, .int .i64 0] 128 (0, 0)) (by (with_reducible repeat (first | refine blk_drewN ?_ _ | refine blk_drew ?_ | refine blk_alloc ?_ _)); exact BK126.out) hb); have n3_ := Aside0.mk (below_step (by repeat (first | (with_reducible first | exact HB.out | apply below_alloc | apply pw_below_drewN | apply below_drew1 | refine below_set ?_ GE125.out | refine below_set ?_ GE126.out) | exact HB.out)) hb); clear BK125; clear BK126; clear HB; have HO129 := n0_; have BK125 := n1_; have BK126 := n2_; have HB := n3_; clear n0_ n1_ n2_ n3_; clear hb ho11; obtain ⟨Ao12, co12, eo12⟩ := Kd.R_slice HO129.out; subst eo12) | ((with_reducible refine gate_dst (N := 10) rfl ?_); refine box_event ?hg (N := 10) ?hd (cs := #[.slice none 0 0, .int .i64 0]) (t := 128) ?hr ?_; (case hd => rfl); (case hg => rfl); (case hr => first | (go_simp; done) | (go_simp; rfl)); intro gb130 hg w13 hbox hb; have n0_ := Aside0.mk (Kd.R_below (by (with_reducible repeat (first | apply Kd.R_alloc | apply Kd.R_drewN | apply Kd.R_drew)); exact HO129.out) hb); have n1_ := Aside0.mk (blk_below (g := gb125) (o := .cells #[.int .i64 a3_0, .int .i64 a3_1, .int .i64 a3_2] 166 (0, 0)) (by (with_reducible repeat (first | refine blk_drewN ?_ _ | refine blk_drew ?_ | refine blk_alloc ?_ _)); exact BK125.out) hb); have n2_ := Aside0.mk (blk_below (g := gb126) (o := .cells #[.slice none 0 0, .int .i64 0] 128 (0, 0)) (by (with_reducible repeat (first | refine blk_drewN ?_ _ | refine blk_drew ?_ | refine blk_alloc ?_ _)); exact BK126.out) hb); have n3_ := Aside0.mk (below_step (by repeat (first | (with_reducible first | exact HB.out | apply below_alloc | apply pw_below_drewN | apply below_drew1 | refine below_set ?_ GE125.out | refine below_set ?_ GE126.out) | exact HB.out)) hb); have n4_ := Aside0.mk (hbox); have n5_ := Aside0.mk ((by rw [hg]; exact (below_size (by repeat (first | (with_reducible first | exact HB.out | apply below_alloc | apply pw_below_drewN | apply below_drew1 | refine below_set ?_ GE125.out | refine below_set ?_ GE126.out) | exact HB.out))) : w.heap.size ≤ gb130)); have n6_ := Aside0.mk ((by rw [hg]; exact (below_size (by repeat (first | (with_reducible first | exact HB.out | apply below_alloc | apply pw_below_drewN | apply below_drew1 | refine below_set ?_ GE125.out | refine below_set ?_ GE126.out) | exact HB.out))) : w.heap.size ≤ gb130)); have n7_ := Aside0.mk ((by rw [hg]; exact Nat.ne_of_lt (blk_lt (g := gb125) (o := .cells #[.int .i64 a3_0, .int .i64 a3_1, .int .i64 a3_2] 166 (0, 0)) (by (with_reducible repeat (first | refine blk_drewN ?_ _ | refine blk_drew ?_ | refine blk_alloc ?_ _)); exact BK125.out)) : gb125 ≠ gb130)); have n8_ := Aside0.mk ((by rw [hg]; exact Nat.ne_of_gt (blk_lt (g := gb125) (o := .cells #[.int .i64 a3_0, .int .i64 a3_1, .int .i64 a3_2] 166 (0, 0)) (by (with_reducible repeat (first | refine blk_drewN ?_ _ | refine blk_drew ?_ | refine blk_alloc ?_ _)); exact BK125.out)) : gb130 ≠ gb125)); have n9_ := Aside0.mk ((by rw [hg]; exact Nat.ne_of_lt (blk_lt (g := gb126) (o := .cells #[.slice none 0 0, .int .i64 0] 128 (0, 0)) (by (with_reducible repeat (first | refine blk_drewN ?_ _ | refine blk_drew ?_ | refine blk_alloc ?_ _)); exact BK126.out)) : gb126 ≠ gb130)); have n10_ := Aside0.mk ((by rw [hg]; exact Nat.ne_of_gt (blk_lt (g := gb126) (o := .cells #[.slice none 0 0, .int .i64 0] 128 (0, 0)) (by (with_reducible repeat (first | refine blk_drewN ?_ _ | refine blk_drew ?_ | refine blk_alloc ?_ _)); exact BK126.out)) : gb130 ≠ gb126)); clear HO129; clear BK125; clear BK126; clear HB; have HO129 := n0_; have BK125 := n1_; have BK126 := n2_; have HB := n3_; have BK130 := n4_; have GW130 := n5_; have GE130 := n6_; have NB125_130 := n7_; have NB130_125 := n8_; have NB126_130 := n9_; have NB130_126 := n10_; clear n0_ n1_ n2_ n3_ n4_ n5_ n6_ n7_ n8_ n9_ n10_; clear hb hbox hg; have hnb14 := NB130_125.out; have hnc14 := NB125_130.out; have hnb15 := NB130_126.out; have hnc15 := NB126_130.out; have hcz16_0 : w13.cell? ⟨gb130, 0, none⟩ = some (.slice none 0 0) := (blk_cell BK130.out 0).trans rfl; have hcz16_1 : w13.cell? ⟨gb130, 1, none⟩ = some (.int .i64 0) := (blk_cell BK130.out 1).trans rfl; have hfz16_0 := blk_frozen BK130.out 0; have hfz16_1 := blk_frozen BK130.out 1; have hnb17 := NB125_126.out; have hnc17 := NB126_125.out; have hcz18_0 : w13.cell? ⟨gb125, 0, none⟩ = some (.int .i64 a3_0) := (blk_cell BK125.out 0).trans rfl; have hcz18_1 : w13.cell? ⟨gb125, 1, none⟩ = some (.int .i64 a3_1) := (blk_cell BK125.out 1).trans rfl; have hcz18_2 : w13.cell? ⟨gb125, 2, none⟩ = some (.int .i64 a3_2) := (blk_cell BK125.out 2).trans rfl; have hfz18_0 := blk_frozen BK125.out 0; have hfz18_1 := blk_frozen BK125.out 1; have hfz18_2 := blk_frozen BK125.out 2))
     (try simp only [Act.put, List.setIfInBounds_toArray, List.set_cons_zero, List.set_cons_succ])
     go_cut [] (fun wc => ∃ (kq : Nat) (x127001_6 : Int) (x131000_6 : List Int) (x131001_6 : Int) (u131000 : Value), Aside0 (cosignerref12_step.j4 kq a0 x131000_6 x131001_6 = some (r1, r2, r3)) ∧ Aside0 (kq ≤ k) ∧ Aside0 (Kd.R (Kd.int .i64) 3 wc w.heap.size (fun _ => True) u131000 x131000_6) ∧ Aside0 (wc.heap[gb125]? = some (.cells #[.int .i64 a3_0, .int .i64 a3_1, .int .i64 a3_2] 166 (0, 0))) ∧ Aside0 (wc.heap[gb126]? = some (.cells #[(.slice none 0 0), .int .i64 x127001_6] 128 (0, 0))) ∧ Aside0 (wc.heap[gb130]? = some (.cells #[u131000, .int .i64 x131001_6] 128 (0, 0))) ∧ Aside0 (Below w.heap.size w wc))
     case first =>
      have H := HC7.out
      clear HC7
      by_cases c19 : a3_0 = 1
      · rw [if_pos c19] at H
        have c19b0 : (a3_0 == 1) = true := beq_iff_eq.mpr c19
        have c19b1 : (a3_0 != 1) = false := bne_eq_false_iff_eq.mpr c19
        clear c19
        (first | rw [c19b0] | (simp only [i64_w, i32_w]; rw [c19b0]) | skip)
        replace H := Option.bind_eq_some_iff.mp H
        obtain ⟨t131, A200, H⟩ := H
        replace H : (if t131 = true then (if a3_2 = 0 then (if 0 ≤ a3_1 then (if a3_1 < (l1.length : Int) then (if 0 ≤ ((rd_T24 l1 a3_1).f0) then (if ((rd_T24 l1 a3_1).f0) < (y127.length : Int) then ((some (y127.set (((rd_T24 l1 a3_1).f0) : Int).toNat ((rd_T24 l1 a3_1).f1) : List Int)).bind fun y134 => (if 0 ≤ ((rd_T24 l1 a3_1).f2) then (if ((rd_T24 l1 a3_1).f2) < (y127.length : Int) then (cosignerref12_step.j4 k a0 (y134.set (((rd_T24 l1 a3_1).f2) : Int).toNat (wrap64 ((rd y134 ((rd_T24 l1 a3_1).f2)) + ((rd_T24 l1 a3_1).f3)))) ((rd_T24 l1 a3_1).f4)) else (none)) else (none))) else (none)) else (none)) else (none)) else (none)) else (some (([] : List Int), 0, false))) else (some (([] : List Int), 0, false))) = some (r1, r2, r3) := H
        have A20 := Aside0.mk A200
        clear A200
        by_cases c21 : t131 = true
        · subst c21
          have H1 : (if a3_2 = 0 then (if 0 ≤ a3_1 then (if a3_1 < (l1.length : Int) then (if 0 ≤ ((rd_T24 l1 a3_1).f0) then (if ((rd_T24 l1 a3_1).f0) < (y127.length : Int) then ((some (y127.set (((rd_T24 l1 a3_1).f0) : Int).toNat ((rd_T24 l1 a3_1).f1) : List Int)).bind fun y134 => (if 0 ≤ ((rd_T24 l1 a3_1).f2) then (if ((rd_T24 l1 a3_1).f2) < (y127.length : Int) then (cosignerref12_step.j4 k a0 (y134.set (((rd_T24 l1 a3_1).f2) : Int).toNat (wrap64 ((rd y134 ((rd_T24 l1 a3_1).f2)) + ((rd_T24 l1 a3_1).f3)))) ((rd_T24 l1 a3_1).f4)) else (none)) else (none))) else (none)) else (none)) else (none)) else (none)) else (some (([] : List Int), 0, false))) = some (r1, r2, r3) := by rw [if_pos rfl] at H; exact H
          clear H
          have H := H1
          clear H1
          by_cases c22 : a3_2 = 0
          · rw [if_pos c22] at H
            have c22b0 : (a3_2 == 0) = true := beq_iff_eq.mpr c22
            have c22b1 : (a3_2 != 0) = false := bne_eq_false_iff_eq.mpr c22
            clear c22
            by_cases c23 : 0 ≤ a3_1
            · rw [if_pos c23] at H
              have c23b0 : decide (0 ≤ a3_1) = true := decide_eq_true c23
              clear c23
              by_cases c24 : a3_1 < (l1.length : Int)
              · rw [if_pos c24] at H
                have c24b0 : decide (a3_1 < (l1.length : Int)) = true := decide_eq_true c24
                clear c24
                by_cases c25 : 0 ≤ ((rd_T24 l1 a3_1).f0)
                · rw [if_pos c25] at H
                  have c25b0 : decide (0 ≤ ((rd_T24 l1 a3_1).f0)) = true := decide_eq_true c25
                  clear c25
                  by_cases c26 : ((rd_T24 l1 a3_1).f0) < (y127.length : Int)
                  · rw [if_pos c26] at H
                    have c26b0 : decide (((rd_T24 l1 a3_1).f0) < (y127.length : Int)) = true := decide_eq_true c26
                    clear c26
                    obtain ⟨y134, hy134⟩ : ∃ y_ : List Int, y_ = (y127.set (((rd_T24 l1 a3_1).f0) : Int).toNat ((rd_T24 l1 a3_1).f1)) := ⟨_, rfl⟩
                    replace H : (if 0 ≤ ((rd_T24 l1 a3_1).f2) then (if ((rd_T24 l1 a3_1).f2) < (y127.length : Int) then (cosignerref12_step.j4 k a0 (y134.set (((rd_T24 l1 a3_1).f2) : Int).toNat (wrap64 ((rd y134 ((rd_T24 l1 a3_1).f2)) + ((rd_T24 l1 a3_1).f3)))) ((rd_T24 l1 a3_1).f4)) else (none)) else (none)) = some (r1, r2, r3) := by first | (rw [hy134]; with_reducible exact H) | (have H2_ := (Option.bind_some _ _).symm.trans H; rw [hy134]; with_reducible exact H2_) | (have H2_ := (Option.bind_some _ _).symm.trans H; with_reducible exact H2_) | with_reducible exact H | (rw [hy134]; exact H) | exact H
                    have Ny134 := Aside0.mk hy134
                    clear hy134
                    by_cases c28 : 0 ≤ ((rd_T24 l1 a3_1).f2)
                    · rw [if_pos c28] at H
                      have c28b0 : decide (0 ≤ ((rd_T24 l1 a3_1).f2)) = true := decide_eq_true c28
                      clear c28
                      by_cases c29 : ((rd_T24 l1 a3_1).f2) < (y127.length : Int)
                      · rw [if_pos c29] at H
                        have c29b0 : decide (((rd_T24 l1 a3_1).f2) < (y127.length : Int)) = true := decide_eq_true c29
                        clear c29
                        obtain ⟨y136, hy136⟩ : ∃ y_ : List Int, y_ = (y134.set (((rd_T24 l1 a3_1).f2) : Int).toNat (wrap64 ((rd y134 ((rd_T24 l1 a3_1).f2)) + ((rd_T24 l1 a3_1).f3)))) := ⟨_, rfl⟩
                        replace H : (cosignerref12_step.j4 k a0 y136 ((rd_T24 l1 a3_1).f4)) = some (r1, r2, r3) := by first | (rw [hy136]; with_reducible exact H) | (have H2_ := (Option.bind_some _ _).symm.trans H; rw [hy136]; with_reducible exact H2_) | (have H2_ := (Option.bind_some _ _).symm.trans H; with_reducible exact H2_) | with_reducible exact H | (rw [hy136]; exact H) | exact H
                        have Ny136 := Aside0.mk hy136
                        clear hy136
                        have H' := Aside0.mk H
                        clear H
                        have hnb31 := NB125_126.out
                        have hnc31 := NB126_125.out
                        have hnb32 := NB125_130.out
                        have hnc32 := NB130_125.out
                        have hcz33_0 : w13.cell? ⟨gb125, 0, none⟩ = some (.int .i64 a3_0) := (blk_cell BK125.out 0).trans rfl
                        have hcz33_1 : w13.cell? ⟨gb125, 1, none⟩ = some (.int .i64 a3_1) := (blk_cell BK125.out 1).trans rfl
                        have hcz33_2 : w13.cell? ⟨gb125, 2, none⟩ = some (.int .i64 a3_2) := (blk_cell BK125.out 2).trans rfl
                        have hfz33_0 := blk_frozen BK125.out 0
                        have hfz33_1 := blk_frozen BK125.out 1
                        have hfz33_2 := blk_frozen BK125.out 2
                        try go_wp2_with (first | ((with_reducible refine gate_callee (f := 64) rfl ?_); refine goesL_ (some 34) rfl rfl Try.func64 (by kernel_rfl) rfl #[.int .i64 a3_1, .int .i64 0, .int .i64 (wrap64 ((l1.length : Int) - 1))] rfl (by (try simp only [List.map_toArray, List.map_cons, List.map_nil]); first | done | rfl | (simp only [List.length_drop, List.length_take]; rfl)) ?_; (with_reducible refine (cosignerref12_in.calls a3_1 0 (wrap64 ((l1.length : Int) - 1)) true _ A20.out).mono ?_); rintro e w' ⟨rfl, ⟨nd, rfl⟩⟩; refine ⟨_, rfl, ?_⟩; have p132 : 0 ≤ (a3_1 : Int) := of_decide_eq_true (by first | (with_reducible assumption) | assumption); have q132 : a3_1 < (l1.length : Int) := of_decide_eq_true (by first | (with_reducible assumption) | assumption); obtain ⟨ad132, e132, hx132_0, hx132_1, hx132_2, hx132_3, hx132_4⟩ := at_T24 HR1.out a3_1 p132 q132; cases e132; have hn132_0 : ad132.block ≠ gb130 := Nat.ne_of_lt (Nat.lt_of_lt_of_le (by have := World.block_lt_of_cell? _ _ hx132_0; first | rwa [add_block] at this | exact this) GW130.out); have hn132_1 : ad132.block ≠ gb130 := Nat.ne_of_lt (Nat.lt_of_lt_of_le (by have := World.block_lt_of_cell? _ _ hx132_0; first | rwa [add_block] at this | exact this) GW130.out); replace hx132_0 := (HB.out.cell (World.block_lt_of_cell? w _ hx132_0)).trans hx132_0; replace hx132_1 := (HB.out.cell (World.block_lt_of_cell? w _ hx132_1)).trans hx132_1; replace hx132_2 := (HB.out.cell (World.block_lt_of_cell? w _ hx132_2)).trans hx132_2; replace hx132_3 := (HB.out.cell (World.block_lt_of_cell? w _ hx132_3)).trans hx132_3; replace hx132_4 := (HB.out.cell (World.block_lt_of_cell? w _ hx132_4)).trans hx132_4; replace hx132_0 := (cell_far (p := ⟨gb130, 0, none⟩) (by first | (rw [add_block]; exact hn132_0) | (show (Addr.add _ _).block ≠ _; rw [add_block]; exact hn132_0) | exact hn132_0) (.slice Ao12 y127.length co12)).trans hx132_0; replace hx132_1 := (cell_far (p := ⟨gb130, 0, none⟩) (by first | (rw [add_block]; exact hn132_0) | (show (Addr.add _ _).block ≠ _; rw [add_block]; exact hn132_0) | exact hn132_0) (.slice Ao12 y127.length co12)).trans hx132_1; replace hx132_2 := (cell_far (p := ⟨gb130, 0, none⟩) (by first | (rw [add_block]; exact hn132_0) | (show (Addr.add _ _).block ≠ _; rw [add_block]; exact hn132_0) | exact hn132_0) (.slice Ao12 y127.length co12)).trans hx132_2; replace hx132_3 := (cell_far (p := ⟨gb130, 0, none⟩) (by first | (rw [add_block]; exact hn132_0) | (show (Addr.add _ _).block ≠ _; rw [add_block]; exact hn132_0) | exact hn132_0) (.slice Ao12 y127.length co12)).trans hx132_3; replace hx132_4 := (cell_far (p := ⟨gb130, 0, none⟩) (by first | (rw [add_block]; exact hn132_0) | (show (Addr.add _ _).block ≠ _; rw [add_block]; exact hn132_0) | exact hn132_0) (.slice Ao12 y127.length co12)).trans hx132_4; replace hx132_0 := (cell_far (p := ⟨gb130, 1, none⟩) (by first | (rw [add_block]; exact hn132_1) | (show (Addr.add _ _).block ≠ _; rw [add_block]; exact hn132_1) | exact hn132_1) (.int .i64 0)).trans hx132_0; replace hx132_1 := (cell_far (p := ⟨gb130, 1, none⟩) (by first | (rw [add_block]; exact hn132_1) | (show (Addr.add _ _).block ≠ _; rw [add_block]; exact hn132_1) | exact hn132_1) (.int .i64 0)).trans hx132_1; replace hx132_2 := (cell_far (p := ⟨gb130, 1, none⟩) (by first | (rw [add_block]; exact hn132_1) | (show (Addr.add _ _).block ≠ _; rw [add_block]; exact hn132_1) | exact hn132_1) (.int .i64 0)).trans hx132_2; replace hx132_3 := (cell_far (p := ⟨gb130, 1, none⟩) (by first | (rw [add_block]; exact hn132_1) | (show (Addr.add _ _).block ≠ _; rw [add_block]; exact hn132_1) | exact hn132_1) (.int .i64 0)).trans hx132_3; replace hx132_4 := (cell_far (p := ⟨gb130, 1, none⟩) (by first | (rw [add_block]; exact hn132_1) | (show (Addr.add _ _).block ≠ _; rw [add_block]; exact hn132_1) | exact hn132_1) (.int .i64 0)).trans hx132_4; clear hn132_0; clear hn132_1; replace p132 := eq_true p132; replace q132 := eq_true q132) | ((with_reducible refine gate_dst (N := 12) rfl ?_); refine box_event ?hg (N := 12) ?hd (cs := #[.int .i64 0, .int .i64 0, .int .i64 0, .int .i64 0, .int .i64 0]) (t := 24) ?hr ?_; (case hd => rfl); (case hg => rfl); (case hr => first | (go_simp; done) | (go_simp; rfl)); intro gb133 hg w34 hbox hb; have n0_ := Aside0.mk (Kd.R_below (by (with_reducible repeat (first | apply Kd.R_alloc | apply Kd.R_drewN | apply Kd.R_drew)); exact (Kd.R_mono (Kd.R_far (p := ⟨gb130, 1, none⟩) (Kd.R_far (p := ⟨gb130, 0, none⟩) (Kd.R_types HO129.out BK130.out (by decide)) (fun _ hk => hk.2) (.slice Ao12 y127.length co12)) (fun _ hk => hk.2) (.int .i64 0)) (fun _ h_ => h_.1))) hb); have n1_ := Aside0.mk (blk_below (g := gb125) (o := .cells #[.int .i64 a3_0, .int .i64 a3_1, .int .i64 a3_2] 166 (0, 0)) (by (with_reducible repeat (first | refine blk_drewN ?_ _ | refine blk_drew ?_ | refine blk_alloc ?_ _)); refine blk_far ?_ NB125_130.out _; (with_reducible repeat (first | refine blk_drewN ?_ _ | refine blk_drew ?_ | refine blk_alloc ?_ _)); refine blk_far ?_ NB125_130.out _; (with_reducible repeat (first | refine blk_drewN ?_ _ | refine blk_drew ?_ | refine blk_alloc ?_ _)); exact BK125.out) hb); have n2_ := Aside0.mk (blk_below (g := gb126) (o := .cells #[.slice none 0 0, .int .i64 0] 128 (0, 0)) (by (with_reducible repeat (first | refine blk_drewN ?_ _ | refine blk_drew ?_ | refine blk_alloc ?_ _)); refine blk_far ?_ NB126_130.out _; (with_reducible repeat (first | refine blk_drewN ?_ _ | refine blk_drew ?_ | refine blk_alloc ?_ _)); refine blk_far ?_ NB126_130.out _; (with_reducible repeat (first | refine blk_drewN ?_ _ | refine blk_drew ?_ | refine blk_alloc ?_ _)); exact BK126.out) hb); have n3_ := Aside0.mk (blk_below (g := gb130) (o := .cells #[.slice Ao12 y127.length co12, .int .i64 0] 128 (0, 0)) (by (with_reducible repeat (first | refine blk_drewN ?_ _ | refine blk_drew ?_ | refine blk_alloc ?_ _)); refine blk_put (cs := #[.slice Ao12 y127.length co12, .int .i64 0]) ?_ 1 _ rfl; (with_reducible repeat (first | refine blk_drewN ?_ _ | refine blk_drew ?_ | refine blk_alloc ?_ _)); refine blk_put (cs := #[.slice none 0 0, .int .i64 0]) ?_ 0 _ rfl; (with_reducible repeat (first | refine blk_drewN ?_ _ | refine blk_drew ?_ | refine blk_alloc ?_ _)); exact BK130.out) hb); have n4_ := Aside0.mk (below_step (by repeat (first | (with_reducible first | exact HB.out | apply below_alloc | apply pw_below_drewN | apply below_drew1 | refine below_set ?_ GE125.out | refine below_set ?_ GE126.out | refine below_set ?_ GE130.out) | exact HB.out)) hb); have n5_ := Aside0.mk (hbox); have n6_ := Aside0.mk ((by rw [hg]; exact (below_size (by repeat (first | (with_reducible first | exact HB.out | apply below_alloc | apply pw_below_drewN | apply below_drew1 | refine below_set ?_ GE125.out | refine below_set ?_ GE126.out | refine below_set ?_ GE130.out) | exact HB.out))) : w.heap.size ≤ gb133)); have n7_ := Aside0.mk ((by rw [hg]; exact (below_size (by repeat (first | (with_reducible first | exact HB.out | apply below_alloc | apply pw_below_drewN | apply below_drew1 | refine below_set ?_ GE125.out | refine below_set ?_ GE126.out | refine below_set ?_ GE130.out) | exact HB.out))) : w.heap.size ≤ gb133)); have n8_ := Aside0.mk ((by rw [hg]; exact Nat.ne_of_lt (blk_lt (g := gb125) (o := .cells #[.int .i64 a3_0, .int .i64 a3_1, .int .i64 a3_2] 166 (0, 0)) (by (with_reducible repeat (first | refine blk_drewN ?_ _ | refine blk_drew ?_ | refine blk_alloc ?_ _)); refine blk_far ?_ NB125_130.out _; (with_reducible repeat (first | refine blk_drewN ?_ _ | refine blk_drew ?_ | refine blk_alloc ?_ _)); refine blk_far ?_ NB125_130.out _; (with_reducible repeat (first | refine blk_drewN ?_ _ | refine blk_drew ?_ | refine blk_alloc ?_ _)); exact BK125.out)) : gb125 ≠ gb133)); have n9_ := Aside0.mk ((by rw [hg]; exact Nat.ne_of_gt (blk_lt (g := gb125) (o := .cells #[.int .i64 a3_0, .int .i64 a3_1, .int .i64 a3_2] 166 (0, 0)) (by (with_reducible repeat (first | refine blk_drewN ?_ _ | refine blk_drew ?_ | refine blk_alloc ?_ _)); refine blk_far ?_ NB125_130.out _; (with_reducible repeat (first | refine blk_drewN ?_ _ | refine blk_drew ?_ | refine blk_alloc ?_ _)); refine blk_far ?_ NB125_130.out _; (with_reducible repeat (first | refine blk_drewN ?_ _ | refine blk_drew ?_ | refine blk_alloc ?_ _)); exact BK125.out)) : gb133 ≠ gb125)); have n10_ := Aside0.mk ((by rw [hg]; exact Nat.ne_of_lt (blk_lt (g := gb126) (o := .cells #[.slice none 0 0, .int .i64 0] 128 (0, 0)) (by (with_reducible repeat (first | refine blk_drewN ?_ _ | refine blk_drew ?_ | refine blk_alloc ?_ _)); refine blk_far ?_ NB126_130.out _; (with_reducible repeat (first | refine blk_drewN ?_ _ | refine blk_drew ?_ | refine blk_alloc ?_ _)); refine blk_far ?_ NB126_130.out _; (with_reducible repeat (first | refine blk_drewN ?_ _ | refine blk_drew ?_ | refine blk_alloc ?_ _)); exact BK126.out)) : gb126 ≠ gb133)); have n11_ := Aside0.mk ((by rw [hg]; exact Nat.ne_of_gt (blk_lt (g := gb126) (o := .cells #[.slice none 0 0, .int .i64 0] 128 (0, 0)) (by (with_reducible repeat (first | refine blk_drewN ?_ _ | refine blk_drew ?_ | refine blk_alloc ?_ _)); refine blk_far ?_ NB126_130.out _; (with_reducible repeat (first | refine blk_drewN ?_ _ | refine blk_drew ?_ | refine blk_alloc ?_ _)); refine blk_far ?_ NB126_130.out _; (with_reducible repeat (first | refine blk_drewN ?_ _ | refine blk_drew ?_ | refine blk_alloc ?_ _)); exact BK126.out)) : gb133 ≠ gb126)); have n12_ := Aside0.mk ((by rw [hg]; exact Nat.ne_of_lt (blk_lt (g := gb130) (o := .cells #[.slice Ao12 y127.length co12, .int .i64 0] 128 (0, 0)) (by (with_reducible repeat (first | refine blk_drewN ?_ _ | refine blk_drew ?_ | refine blk_alloc ?_ _)); refine blk_put (cs := #[.slice Ao12 y127.length co12, .int .i64 0]) ?_ 1 _ rfl; (with_reducible repeat (first | refine blk_drewN ?_ _ | refine blk_drew ?_ | refine blk_alloc ?_ _)); refine blk_put (cs := #[.slice none 0 0, .int .i64 0]) ?_ 0 _ rfl; (with_reducible repeat (first | refine blk_drewN ?_ _ | refine blk_drew ?_ | refine blk_alloc ?_ _)); exact BK130.out)) : gb130 ≠ gb133)); have n13_ := Aside0.mk ((by rw [hg]; exact Nat.ne_of_gt (blk_lt (g := gb130) (o := .cells #[.slice Ao12 y127.length co12, .int .i64 0] 128 (0, 0)) (by (with_reducible repeat (first | refine blk_drewN ?_ _ | refine blk_drew ?_ | refine blk_alloc ?_ _)); refine blk_put (cs := #[.slice Ao12 y127.length co12, .int .i64 0]) ?_ 1 _ rfl; (with_reducible repeat (first | refine blk_drewN ?_ _ | refine blk_drew ?_ | refine blk_alloc ?_ _)); refine blk_put (cs := #[.slice none 0 0, .int .i64 0]) ?_ 0 _ rfl; (with_reducible repeat (first | refine blk_drewN ?_ _ | refine blk_drew ?_ | refine blk_alloc ?_ _)); exact BK130.out)) : gb133 ≠ gb130)); clear HO129; clear BK125; clear BK126; clear BK130; clear HB; have HO129 := n0_; have BK125 := n1_; have BK126 := n2_; have BK130 := n3_; have HB := n4_; have BK133 := n5_; have GW133 := n6_; have GE133 := n7_; have NB125_133 := n8_; have NB133_125 := n9_; have NB126_133 := n10_; have NB133_126 := n11_; have NB130_133 := n12_; have NB133_130 := n13_; clear n0_ n1_ n2_ n3_ n4_ n5_ n6_ n7_ n8_ n9_ n10_ n11_ n12_ n13_; clear hb hbox hg; have hnb35 := NB133_125.out; have hnc35 := NB125_133.out; have hnb36 := NB133_126.out; have hnc36 := NB126_133.out; have hnb37 := NB133_130.out; have hnc37 := NB130_133.out; have hcz38_0 : w34.cell? ⟨gb133, 0, none⟩ = some (.int .i64 0) := (blk_cell BK133.out 0).trans rfl; have hcz38_1 : w34.cell? ⟨gb133, 1, none⟩ = some (.int .i64 0) := (blk_cell BK133.out 1).trans rfl; have hcz38_2 : w34.cell? ⟨gb133, 2, none⟩ = some (.int .i64 0) := (blk_cell BK133.out 2).trans rfl; have hcz38_3 : w34.cell? ⟨gb133, 3, none⟩ = some (.int .i64 0) := (blk_cell BK133.out 3).trans rfl; have hcz38_4 : w34.cell? ⟨gb133, 4, none⟩ = some (.int .i64 0) := (blk_cell BK133.out 4).trans rfl; have hfz38_0 := blk_frozen BK133.out 0; have hfz38_1 := blk_frozen BK133.out 1; have hfz38_2 := blk_frozen BK133.out 2; have hfz38_3 := blk_frozen BK133.out 3; have hfz38_4 := blk_frozen BK133.out 4) | ((with_reducible refine gate_store (t := 24) (p := 12) rfl ?_); refine store_event (t := 24) (p := 12) (v := ?vo_w39) (w1 := (((((w34.setCell ⟨gb133, 0, none⟩ (.int .i64 ((rd_T24 l1 a3_1).f0))).setCell ⟨gb133, 1, none⟩ (.int .i64 ((rd_T24 l1 a3_1).f1))).setCell ⟨gb133, 2, none⟩ (.int .i64 ((rd_T24 l1 a3_1).f2))).setCell ⟨gb133, 3, none⟩ (.int .i64 ((rd_T24 l1 a3_1).f3))).setCell ⟨gb133, 4, none⟩ (.int .i64 ((rd_T24 l1 a3_1).f4)))) ?hg ?ho ?hn ?hr ?_; (case ho => rfl); (case hg => rfl); (case hn => rfl); (case hr => first | (go_simp; done) | (go_simp; rfl)); intro w39 hw; have n0_ : Aside0 (Kd.R (Kd.int .i64) 3 w39 w.heap.size (fun _ => True) (.slice Ao12 y127.length co12) y127) := ⟨(by rw [hw]; exact (by (with_reducible repeat (first | apply Kd.R_alloc | apply Kd.R_drewN | apply Kd.R_drew)); exact Kd.R_mono (Kd.R_far (p := ⟨gb133, 4, none⟩) (Kd.R_far (p := ⟨gb133, 3, none⟩) (Kd.R_far (p := ⟨gb133, 2, none⟩) (Kd.R_far (p := ⟨gb133, 1, none⟩) (Kd.R_far (p := ⟨gb133, 0, none⟩) (Kd.R_types HO129.out BK133.out (by decide)) (fun _ hk => hk.2) (.int .i64 ((rd_T24 l1 a3_1).f0))) (fun _ hk => hk.2) (.int .i64 ((rd_T24 l1 a3_1).f1))) (fun _ hk => hk.2) (.int .i64 ((rd_T24 l1 a3_1).f2))) (fun _ hk => hk.2) (.int .i64 ((rd_T24 l1 a3_1).f3))) (fun _ hk => hk.2) (.int .i64 ((rd_T24 l1 a3_1).f4))) (fun _ hk => trivial)))⟩; have n1_ : Aside0 (w39.heap[gb125]? = some (.cells #[.int .i64 a3_0, .int .i64 a3_1, .int .i64 a3_2] 166 (0, 0))) := ⟨(by rw [hw]; exact (by (with_reducible repeat (first | refine blk_drewN ?_ _ | refine blk_drew ?_ | refine blk_alloc ?_ _)); refine blk_far ?_ NB125_133.out _; (with_reducible repeat (first | refine blk_drewN ?_ _ | refine blk_drew ?_ | refine blk_alloc ?_ _)); refine blk_far ?_ NB125_133.out _; (with_reducible repeat (first | refine blk_drewN ?_ _ | refine blk_drew ?_ | refine blk_alloc ?_ _)); refine blk_far ?_ NB125_133.out _; (with_reducible repeat (first | refine blk_drewN ?_ _ | refine blk_drew ?_ | refine blk_alloc ?_ _)); refine blk_far ?_ NB125_133.out _; (with_reducible repeat (first | refine blk_drewN ?_ _ | refine blk_drew ?_ | refine blk_alloc ?_ _)); refine blk_far ?_ NB125_133.out _; (with_reducible repeat (first | refine blk_drewN ?_ _ | refine blk_drew ?_ | refine blk_alloc ?_ _)); exact BK125.out))⟩; have n2_ : Aside0 (w39.heap[gb126]? = some (.cells #[.slice none 0 0, .int .i64 0] 128 (0, 0))) := ⟨(by rw [hw]; exact (by (with_reducible repeat (first | refine blk_drewN ?_ _ | refine blk_drew ?_ | refine blk_alloc ?_ _)); refine blk_far ?_ NB126_133.out _; (with_reducible repeat (first | refine blk_drewN ?_ _ | refine blk_drew ?_ | refine blk_alloc ?_ _)); refine blk_far ?_ NB126_133.out _; (with_reducible repeat (first | refine blk_drewN ?_ _ | refine blk_drew ?_ | refine blk_alloc ?_ _)); refine blk_far ?_ NB126_133.out _; (with_reducible repeat (first | refine blk_drewN ?_ _ | refine blk_drew ?_ | refine blk_alloc ?_ _)); refine blk_far ?_ NB126_133.out _; (with_reducible repeat (first | refine blk_drewN ?_ _ | refine blk_drew ?_ | refine blk_alloc ?_ _)); refine blk_far ?_ NB126_133.out _; (with_reducible repeat (first | refine blk_drewN ?_ _ | refine blk_drew ?_ | refine blk_alloc ?_ _)); exact BK126.out))⟩; have n3_ : Aside0 (w39.heap[gb130]? = some (.cells #[.slice Ao12 y127.length co12, .int .i64 0] 128 (0, 0))) := ⟨(by rw [hw]; exact (by (with_reducible repeat (first | refine blk_drewN ?_ _ | refine blk_drew ?_ | refine blk_alloc ?_ _)); refine blk_far ?_ NB130_133.out _; (with_reducible repeat (first | refine blk_drewN ?_ _ | refine blk_drew ?_ | refine blk_alloc ?_ _)); refine blk_far ?_ NB130_133.out _; (with_reducible repeat (first | refine blk_drewN ?_ _ | refine blk_drew ?_ | refine blk_alloc ?_ _)); refine blk_far ?_ NB130_133.out _; (with_reducible repeat (first | refine blk_drewN ?_ _ | refine blk_drew ?_ | refine blk_alloc ?_ _)); refine blk_far ?_ NB130_133.out _; (with_reducible repeat (first | refine blk_drewN ?_ _ | refine blk_drew ?_ | refine blk_alloc ?_ _)); refine blk_far ?_ NB130_133.out _; (with_reducible repeat (first | refine blk_drewN ?_ _ | refine blk_drew ?_ | refine blk_alloc ?_ _)); exact BK130.out))⟩; have n4_ : Aside0 (w39.heap[gb133]? = some (.cells #[.int .i64 ((rd_T24 l1 a3_1).f0), .int .i64 ((rd_T24 l1 a3_1).f1), .int .i64 ((rd_T24 l1 a3_1).f2), .int .i64 ((rd_T24 l1 a3_1).f3), .int .i64 ((rd_T24 l1 a3_1).f4)] 24 (0, 0))) := ⟨(by rw [hw]; exact (by (with_reducible repeat (first | refine blk_drewN ?_ _ | refine blk_drew ?_ | refine blk_alloc ?_ _)); refine blk_put (cs := #[.int .i64 ((rd_T24 l1 a3_1).f0), .int .i64 ((rd_T24 l1 a3_1).f1), .int .i64 ((rd_T24 l1 a3_1).f2), .int .i64 ((rd_T24 l1 a3_1).f3), .int .i64 0]) ?_ 4 _ rfl; (with_reducible repeat (first | refine blk_drewN ?_ _ | refine blk_drew ?_ | refine blk_alloc ?_ _)); refine blk_put (cs := #[.int .i64 ((rd_T24 l1 a3_1).f0), .int .i64 ((rd_T24 l1 a3_1).f1), .int .i64 ((rd_T24 l1 a3_1).f2), .int .i64 0, .int .i64 0]) ?_ 3 _ rfl; (with_reducible repeat (first | refine blk_drewN ?_ _ | refine blk_drew ?_ | refine blk_alloc ?_ _)); refine blk_put (cs := #[.int .i64 ((rd_T24 l1 a3_1).f0), .int .i64 ((rd_T24 l1 a3_1).f1), .int .i64 0, .int .i64 0, .int .i64 0]) ?_ 2 _ rfl; (with_reducible repeat (first | refine blk_drewN ?_ _ | refine blk_drew ?_ | refine blk_alloc ?_ _)); refine blk_put (cs := #[.int .i64 ((rd_T24 l1 a3_1).f0), .int .i64 0, .int .i64 0, .int .i64 0, .int .i64 0]) ?_ 1 _ rfl; (with_reducible repeat (first | refine blk_drewN ?_ _ | refine blk_drew ?_ | refine blk_alloc ?_ _)); refine blk_put (cs := #[.int .i64 0, .int .i64 0, .int .i64 0, .int .i64 0, .int .i64 0]) ?_ 0 _ rfl; (with_reducible repeat (first | refine blk_drewN ?_ _ | refine blk_drew ?_ | refine blk_alloc ?_ _)); exact BK133.out))⟩; have n5_ : Aside0 (Below w.heap.size w w39) := ⟨(by rw [hw]; exact (by repeat (first | (with_reducible first | exact HB.out | apply below_alloc | apply pw_below_drewN | apply below_drew1 | refine below_set ?_ GE125.out | refine below_set ?_ GE126.out | refine below_set ?_ GE130.out | refine below_set ?_ GE133.out) | exact HB.out)))⟩; clear hw; clear HO129; clear BK125; clear BK126; clear BK130; clear BK133; clear HB; have HO129 := n0_; have BK125 := n1_; have BK126 := n2_; have BK130 := n3_; have BK133 := n4_; have HB := n5_; clear n0_ n1_ n2_ n3_ n4_ n5_; have hnb40 := NB130_126.out; have hnc40 := NB126_130.out; have hcz41_0 : w39.cell? ⟨gb130, 0, none⟩ = some (.slice Ao12 y127.length co12) := (blk_cell BK130.out 0).trans rfl; have hcz41_1 : w39.cell? ⟨gb130, 1, none⟩ = some (.int .i64 0) := (blk_cell BK130.out 1).trans rfl; have hfz41_0 := blk_frozen BK130.out 0; have hfz41_1 := blk_frozen BK130.out 1; have hcz42_0 : w39.cell? ⟨gb133, 0, none⟩ = some (.int .i64 ((rd_T24 l1 a3_1).f0)) := (blk_cell BK133.out 0).trans rfl; have hcz42_1 : w39.cell? ⟨gb133, 1, none⟩ = some (.int .i64 ((rd_T24 l1 a3_1).f1)) := (blk_cell BK133.out 1).trans rfl; have hcz42_2 : w39.cell? ⟨gb133, 2, none⟩ = some (.int .i64 ((rd_T24 l1 a3_1).f2)) := (blk_cell BK133.out 2).trans rfl; have hcz42_3 : w39.cell? ⟨gb133, 3, none⟩ = some (.int .i64 ((rd_T24 l1 a3_1).f3)) := (blk_cell BK133.out 3).trans rfl; have hcz42_4 : w39.cell? ⟨gb133, 4, none⟩ = some (.int .i64 ((rd_T24 l1 a3_1).f4)) := (blk_cell BK133.out 4).trans rfl; have hfz42_0 := blk_frozen BK133.out 0; have hfz42_1 := blk_frozen BK133.out 1; have hfz42_2 := blk_frozen BK133.out 2; have hfz42_3 := blk_frozen BK133.out 3; have hfz42_4 := blk_frozen BK133.out 4; have p27 : 0 ≤ (((rd_T24 l1 a3_1).f0) : Int) := of_decide_eq_true (by first | (with_reducible assumption) | assumption); have q27 : (((rd_T24 l1 a3_1).f0) : Int) < ((y127.length : Int) : Int) := of_decide_eq_true (by first | (with_reducible assumption) | assumption); obtain ⟨go27, co27, eo27, gb27, gl27, cl27, HG27⟩ := Kd.R_form HO129.out (by omega); (first | cases eo27 | (injection eo27 with ea_ en_ ec_; (first | subst ea_ | (injection ea_ with ea_; subst ea_)); subst ec_; clear en_)); have GB27 := Aside0.mk gb27; have GG27 := Aside0.mk HG27; clear gb27 gl27 HG27; obtain ⟨hx27_0, hf27_0⟩ := Kd.R_celln 0 HO129.out (((rd_T24 l1 a3_1).f0) : Int) p27 q27; replace p27 := eq_true p27; replace q27 := eq_true q27; obtain ⟨hy43_, hz43_⟩ := Kd.R_celln 0 HO129.out (((rd_T24 l1 a3_1).f0) : Int) (of_decide_eq_true (by first | (with_reducible assumption) | assumption)) (of_decide_eq_true (by first | (with_reducible assumption) | assumption)); have HP43 := Kd.R_putg HO129.out (((rd_T24 l1 a3_1).f0) : Int) ((rd_T24 l1 a3_1).f1)) | ((with_reducible refine gate_store (t := 3) (p := 54) rfl ?_); refine store_event (t := 3) (p := 54) (v := ?vo_w44) (w1 := (w39.setCell ⟨go27, (((rd_T24 l1 a3_1).f0) : Int).toNat, none⟩ (.int .i64 ((rd_T24 l1 a3_1).f1)))) ?hg ?ho ?hn ?hr ?_; (case ho => rfl); (case hg => rfl); (case hn => rfl); (case hr => first | (go_simp; done) | (go_simp; rfl)); intro w44 hw; have hg : w39.grownBy w44 (some go27) := (by rw [hw]; exact HP43.2); have hp_ : Kd.R (Kd.int .i64) 3 w44 w.heap.size (fun _ => True) (.slice (some ⟨go27, 0, none⟩) y127.length co12) y134 := (by rw [hw, Ny134.out]; exact HP43.1); clear HP43; have n0_ := Aside0.mk (blk_grown (g := gb125) (o := .cells #[.int .i64 a3_0, .int .i64 a3_1, .int .i64 a3_2] 166 (0, 0)) (by (with_reducible repeat (first | refine blk_drewN ?_ _ | refine blk_drew ?_ | refine blk_alloc ?_ _)); exact BK125.out) hg (Kd.R_ne HO129.out BK125.out (by decide))); have n1_ := Aside0.mk (blk_grown (g := gb126) (o := .cells #[.slice none 0 0, .int .i64 0] 128 (0, 0)) (by (with_reducible repeat (first | refine blk_drewN ?_ _ | refine blk_drew ?_ | refine blk_alloc ?_ _)); exact BK126.out) hg (Kd.R_ne HO129.out BK126.out (by decide))); have n2_ := Aside0.mk (hp_); have n3_ := Aside0.mk (blk_grown (g := gb130) (o := .cells #[.slice (some ⟨go27, 0, none⟩) y127.length co12, .int .i64 0] 128 (0, 0)) (by (with_reducible repeat (first | refine blk_drewN ?_ _ | refine blk_drew ?_ | refine blk_alloc ?_ _)); exact BK130.out) hg (Kd.R_ne HO129.out BK130.out (by decide))); have n4_ := Aside0.mk (blk_grown (g := gb133) (o := .cells #[.int .i64 ((rd_T24 l1 a3_1).f0), .int .i64 ((rd_T24 l1 a3_1).f1), .int .i64 ((rd_T24 l1 a3_1).f2), .int .i64 ((rd_T24 l1 a3_1).f3), .int .i64 ((rd_T24 l1 a3_1).f4)] 24 (0, 0)) (by (with_reducible repeat (first | refine blk_drewN ?_ _ | refine blk_drew ?_ | refine blk_alloc ?_ _)); exact BK133.out) hg (Kd.R_ne HO129.out BK133.out (by decide))); have n5_ := Aside0.mk ((by rw [hw]; exact below_set (HB.out) GB27.out : Below w.heap.size w w44)); clear BK125; clear BK126; clear HO129; clear BK130; clear BK133; clear HB; have BK125 := n0_; have BK126 := n1_; have HO129 := n2_; have BK130 := n3_; have BK133 := n4_; have HB := n5_; clear n0_ n1_ n2_ n3_ n4_ n5_; clear hg hw hp_))
                        have n0_ := Aside0.mk (Kd.R_drew HO129.out)
                        have n1_ := Aside0.mk (blk_drew BK125.out)
                        have n2_ := Aside0.mk (blk_drew BK126.out)
                        have n3_ := Aside0.mk (blk_drew BK130.out)
                        have n4_ := Aside0.mk (blk_drew BK133.out)
                        have n5_ := Aside0.mk (below_drew1 HB.out)
                        clear HO129
                        clear BK125
                        clear BK126
                        clear BK130
                        clear BK133
                        clear HB
                        have HO129 := n0_
                        have BK125 := n1_
                        have BK126 := n2_
                        have BK130 := n3_
                        have BK133 := n4_
                        have HB := n5_
                        clear n0_ n1_ n2_ n3_ n4_ n5_
                        have p135 : 0 ≤ (((rd_T24 l1 a3_1).f2) : Int) := of_decide_eq_true (by first | (with_reducible assumption) | assumption)
                        have q135 : ((rd_T24 l1 a3_1).f2) < (y134.length : Int) := (by have h_ : (((rd_T24 l1 a3_1).f2) : Int) < ((y127.length : Int) : Int) := of_decide_eq_true (by first | (with_reducible assumption) | assumption); first | (have e_ := (Kd.R_reads' HO129.out).1; omega) | simpa only [Ny134.out, List.length_set] using h_)
                        have ql135 : ((((rd_T24 l1 a3_1).f2) : Int) < ((y127.length : Int) : Int)) = True := eq_true (of_decide_eq_true (by first | (with_reducible assumption) | assumption))
                        obtain ⟨ad135, e135, hx135_0⟩ := Kd.at_int (Kd.R_reads' HO129.out).2.2 ((rd_T24 l1 a3_1).f2) p135 q135
                        obtain rfl : (⟨go27, 0, none⟩ : Addr) = ad135 := (by injection e135)
                        (first | simp only [add_plain] at hx135_0 | simp only [add_at] at hx135_0 | simp only [Addr.add, Nat.zero_add] at hx135_0 | skip)
                        replace p135 := eq_true p135
                        replace q135 := eq_true q135
                        have p30 : 0 ≤ (((rd_T24 l1 a3_1).f2) : Int) := of_decide_eq_true (by first | (with_reducible assumption) | assumption)
                        have q30 : (((rd_T24 l1 a3_1).f2) : Int) < ((y127.length : Int) : Int) := of_decide_eq_true (by first | (with_reducible assumption) | assumption)
                        obtain ⟨hx30_0, hf30_0⟩ := Kd.R_celln 0 HO129.out (((rd_T24 l1 a3_1).f2) : Int) p30 q30
                        replace p30 := eq_true p30
                        replace q30 := eq_true q30
                        have HP46 := Kd.R_putn HO129.out (((rd_T24 l1 a3_1).f2) : Int) (wrap64 ((rd y134 ((rd_T24 l1 a3_1).f2)) + ((rd_T24 l1 a3_1).f3)))
                        rw [← Ny136.out] at HP46
                        have HQ46 := Aside0.mk HP46
                        clear HP46
                        refine start_ (n := 15) (S := fun w' => w'.cell? ⟨gb130, 0, none⟩ = some (.slice (some ⟨go27, 0, none⟩) y127.length co12) ∧ w'.cell? ⟨gb130, 1, none⟩ = some (.int .i64 0) ∧ w'.cell? ⟨gb133, 0, none⟩ = some (.int .i64 ((rd_T24 l1 a3_1).f0)) ∧ w'.cell? ⟨gb133, 1, none⟩ = some (.int .i64 ((rd_T24 l1 a3_1).f1)) ∧ w'.cell? ⟨gb133, 2, none⟩ = some (.int .i64 ((rd_T24 l1 a3_1).f2)) ∧ w'.cell? ⟨gb133, 3, none⟩ = some (.int .i64 ((rd_T24 l1 a3_1).f3)) ∧ w'.cell? ⟨gb133, 4, none⟩ = some (.int .i64 ((rd_T24 l1 a3_1).f4)) ∧ w'.cell? ⟨go27, (((rd_T24 l1 a3_1).f2)).toNat, none⟩ = some (.int .i64 (rd y134 ((rd_T24 l1 a3_1).f2)))) (ds := [14]) #[ff,ff,ff,ff,ff,ff,ff,ff,ff,ff,ff,ff,ff,ff,ff] (by kernel_rfl) rfl rfl ⟨(blk_cell BK130.out 0).trans rfl, (blk_cell BK130.out 1).trans rfl, (blk_cell BK133.out 0).trans rfl, (blk_cell BK133.out 1).trans rfl, (blk_cell BK133.out 2).trans rfl, (blk_cell BK133.out 3).trans rfl, (blk_cell BK133.out 4).trans rfl, hx135_0⟩ (fun hHeld => ?_); refine with_tabW cosignerref12_step.tab10 cosignerref12_step.bits10 (fun HT_ HW_ => ?_)
                        generalize w44.drew = w45 at HO129 BK125 BK126 BK130 BK133 HB HQ46 hf30_0 hx135_0 hx30_0 hHeld ⊢
                        refine pure_ (i := 0) (N := some 55) (v := ?_) (a' := ?_) #[tt,ff,ff,ff,ff,ff,ff,ff,ff,ff,ff,ff,ff,ff,ff] rfl rfl (any_of HT_.out (by kernel_rfl)) (fun _ _ _ h => h) (Or.inl ⟨by rfl, ?_⟩) ?_ ?_
                        rotate_left
                        · intro w'
                          go_simp
                          with_reducible rfl
                        rotate_left
                        · simp only [Act.put, List.setIfInBounds_toArray, List.set_cons_zero, List.set_cons_succ, i64_w, i32_w]
                          rfl
                        refine pure_ (i := 2) (N := some 57) (v := ?_) (a' := ?_) #[tt,ff,tt,ff,ff,ff,ff,ff,ff,ff,ff,ff,ff,ff,ff] rfl rfl (any_of HT_.out (by kernel_rfl)) (fun _ _ _ h => h) (Or.inl ⟨by rfl, ?_⟩) ?_ ?_
                        rotate_left
                        · intro w'
                          go_simp
                          with_reducible rfl
                        rotate_left
                        · simp only [Act.put, List.setIfInBounds_toArray, List.set_cons_zero, List.set_cons_succ, i64_w, i32_w]
                          rfl
                        refine pure_ (i := 4) (N := some 59) (v := ?_) (a' := ?_) #[tt,ff,tt,ff,tt,ff,ff,ff,ff,ff,ff,ff,ff,ff,ff] rfl rfl (any_of HT_.out (by kernel_rfl)) (fun _ _ _ h => h) (Or.inl ⟨by rfl, ?_⟩) ?_ ?_
                        rotate_left
                        · intro w'
                          go_simp
                          with_reducible rfl
                        rotate_left
                        · simp only [Act.put, List.setIfInBounds_toArray, List.set_cons_zero, List.set_cons_succ, i64_w, i32_w]
                          rfl
                        refine pure_ (i := 6) (N := some 61) (v := ?_) (a' := ?_) #[tt,ff,tt,ff,tt,ff,tt,ff,ff,ff,ff,ff,ff,ff,ff] rfl rfl (any_of HT_.out (by kernel_rfl)) (fun _ _ _ h => h) (Or.inl ⟨by rfl, ?_⟩) ?_ ?_
                        rotate_left
                        · intro w'
                          go_simp
                          with_reducible rfl
                        rotate_left
                        · simp only [Act.put, List.setIfInBounds_toArray, List.set_cons_zero, List.set_cons_succ, i64_w, i32_w]
                          rfl
                        refine pure_ (i := 10) (N := some 65) (v := ?_) (a' := ?_) #[tt,ff,tt,ff,tt,ff,tt,ff,ff,ff,tt,ff,ff,ff,ff] rfl rfl (any_of HT_.out (by kernel_rfl)) (fun _ _ _ h => h) (Or.inl ⟨by rfl, ?_⟩) ?_ ?_
                        rotate_left
                        · intro w'
                          go_simp
                          with_reducible rfl
                        rotate_left
                        · simp only [Act.put, List.setIfInBounds_toArray, List.set_cons_zero, List.set_cons_succ, i64_w, i32_w]
                          rfl
                        refine take_ (i := 1) (N := some 56) (v := ?_) (a' := ?_) #[tt,tt,tt,ff,tt,ff,tt,ff,ff,ff,tt,ff,ff,ff,ff] rfl rfl (take_ofW HT_.out HW_.out (by kernel_rfl)) (fun _ _ _ h => h) (Or.inl ⟨by rfl, ?_⟩) hHeld ?_ ?_
                        rotate_left
                        · rintro w' ⟨s0, s1, s2, s3, s4, s5, s6, s7⟩
                          go_simp
                          with_reducible rfl
                        rotate_left
                        · simp only [Act.put, List.setIfInBounds_toArray, List.set_cons_zero, List.set_cons_succ, i64_w, i32_w]
                          rfl
                        refine take_ (i := 3) (N := some 58) (v := ?_) (a' := ?_) #[tt,tt,tt,tt,tt,ff,tt,ff,ff,ff,tt,ff,ff,ff,ff] rfl rfl (take_ofW HT_.out HW_.out (by kernel_rfl)) (fun _ _ _ h => h) (Or.inl ⟨by rfl, ?_⟩) hHeld ?_ ?_
                        rotate_left
                        · rintro w' ⟨s0, s1, s2, s3, s4, s5, s6, s7⟩
                          go_simp
                          with_reducible rfl
                        rotate_left
                        · simp only [Act.put, List.setIfInBounds_toArray, List.set_cons_zero, List.set_cons_succ, i64_w, i32_w]
                          rfl
                        refine take_ (i := 5) (N := some 60) (v := ?_) (a' := ?_) #[tt,tt,tt,tt,tt,tt,tt,ff,ff,ff,tt,ff,ff,ff,ff] rfl rfl (take_ofW HT_.out HW_.out (by kernel_rfl)) (fun _ _ _ h => h) (Or.inl ⟨by rfl, ?_⟩) hHeld ?_ ?_
                        rotate_left
                        · rintro w' ⟨s0, s1, s2, s3, s4, s5, s6, s7⟩
                          go_simp
                          with_reducible rfl
                        rotate_left
                        · simp only [Act.put, List.setIfInBounds_toArray, List.set_cons_zero, List.set_cons_succ, i64_w, i32_w]
                          rfl
                        refine take_ (i := 7) (N := some 62) (v := ?_) (a' := ?_) #[tt,tt,tt,tt,tt,tt,tt,tt,ff,ff,tt,ff,ff,ff,ff] rfl rfl (take_ofW HT_.out HW_.out (by kernel_rfl)) (fun _ _ _ h => h) (Or.inl ⟨by rfl, ?_⟩) hHeld ?_ ?_
                        rotate_left
                        · rintro w' ⟨s0, s1, s2, s3, s4, s5, s6, s7⟩
                          go_simp
                          with_reducible rfl
                        rotate_left
                        · simp only [Act.put, List.setIfInBounds_toArray, List.set_cons_zero, List.set_cons_succ, i64_w, i32_w]
                          rfl
                        refine pure_ (i := 8) (N := some 63) (v := ?_) (a' := ?_) #[tt,tt,tt,tt,tt,tt,tt,tt,tt,ff,tt,ff,ff,ff,ff] rfl rfl (any_of HT_.out (by kernel_rfl)) (fun _ _ _ h => h) (Or.inl ⟨by rfl, ?_⟩) ?_ ?_
                        rotate_left
                        · intro w'
                          go_simp
                          with_reducible rfl
                        rotate_left
                        · simp only [Act.put, List.setIfInBounds_toArray, List.set_cons_zero, List.set_cons_succ, i64_w, i32_w]
                          rfl
                        refine take_ (i := 9) (N := some 64) (v := ?_) (a' := ?_) #[tt,tt,tt,tt,tt,tt,tt,tt,tt,tt,tt,ff,ff,ff,ff] rfl rfl (take_ofW HT_.out HW_.out (by kernel_rfl)) (fun _ _ _ h => h) (Or.inl ⟨by rfl, ?_⟩) hHeld ?_ ?_
                        rotate_left
                        · rintro w' ⟨s0, s1, s2, s3, s4, s5, s6, s7⟩
                          go_simp
                          with_reducible rfl
                        rotate_left
                        · simp only [Act.put, List.setIfInBounds_toArray, List.set_cons_zero, List.set_cons_succ, i64_w, i32_w]
                          rfl
                        refine take_ (i := 11) (N := some 66) (v := ?_) (a' := ?_) #[tt,tt,tt,tt,tt,tt,tt,tt,tt,tt,tt,tt,ff,ff,ff] rfl rfl (take_ofW HT_.out HW_.out (by kernel_rfl)) (fun _ _ _ h => h) (Or.inl ⟨by rfl, ?_⟩) hHeld ?_ ?_
                        rotate_left
                        · rintro w' ⟨s0, s1, s2, s3, s4, s5, s6, s7⟩
                          go_simp
                          with_reducible rfl
                        rotate_left
                        · simp only [Act.put, List.setIfInBounds_toArray, List.set_cons_zero, List.set_cons_succ, i64_w, i32_w]
                          rfl
                        refine pure_ (i := 12) (N := some 67) (v := ?_) (a' := ?_) #[tt,tt,tt,tt,tt,tt,tt,tt,tt,tt,tt,tt,tt,ff,ff] rfl rfl (any_of HT_.out (by kernel_rfl)) (fun _ _ _ h => h) (Or.inl ⟨by rfl, ?_⟩) ?_ ?_
                        rotate_left
                        · intro w'
                          go_simp
                          with_reducible rfl
                        rotate_left
                        · simp only [Act.put, List.setIfInBounds_toArray, List.set_cons_zero, List.set_cons_succ, i64_w, i32_w]
                          rfl
                        refine pure_ (i := 13) (N := some 68) (v := ?_) (a' := ?_) #[tt,tt,tt,tt,tt,tt,tt,tt,tt,tt,tt,tt,tt,tt,ff] rfl rfl (any_of HT_.out (by kernel_rfl)) (fun _ _ _ h => h) (Or.inl ⟨by rfl, ?_⟩) ?_ ?_
                        rotate_left
                        · intro w'
                          go_simp
                          with_reducible rfl
                        rotate_left
                        · simp only [Act.put, List.setIfInBounds_toArray, List.set_cons_zero, List.set_cons_succ, i64_w, i32_w]
                          rfl
                        refine last_ (i := 14) (N := none) #[tt,tt,tt,tt,tt,tt,tt,tt,tt,tt,tt,tt,tt,tt,tt] rfl rfl (one_of HT_.out (by kernel_rfl)) (by decide) (fun K hK => ?_)
                        refine skip_ (w1 := ?_) (by rfl) rfl ?_ ?_
                        rotate_left
                        · go_simp
                          rfl
                        refine hK.out _ _ ?_
                        clear hK K
                        refine done_ (done_of HT_.out (by kernel_rfl)) ?_
                        have n0_ : Aside0 (Kd.R (Kd.int .i64) 3 (w45.setCell ⟨go27, (((rd_T24 l1 a3_1).f2) : Int).toNat, none⟩ (.int .i64 (wrap64 ((rd y134 ((rd_T24 l1 a3_1).f2)) + ((rd_T24 l1 a3_1).f3))))) w.heap.size (fun _ => True) (.slice (some ⟨go27, 0, none⟩) y127.length co12) y136) := ⟨by (with_reducible repeat (first | apply Kd.R_alloc | apply Kd.R_drewN | apply Kd.R_drew)); exact HQ46.out⟩
                        have n1_ : Aside0 ((w45.setCell ⟨go27, (((rd_T24 l1 a3_1).f2) : Int).toNat, none⟩ (.int .i64 (wrap64 ((rd y134 ((rd_T24 l1 a3_1).f2)) + ((rd_T24 l1 a3_1).f3))))).heap[gb125]? = some (.cells #[.int .i64 a3_0, .int .i64 a3_1, .int .i64 a3_2] 166 (0, 0))) := ⟨by (with_reducible repeat (first | refine blk_drewN ?_ _ | refine blk_drew ?_ | refine blk_alloc ?_ _)); refine blk_far ?_ (by have h_ := Kd.R_ne HO129.out BK125.out (by decide); intro e_; exact h_ (by rw [e_]; rfl)) _; (with_reducible repeat (first | refine blk_drewN ?_ _ | refine blk_drew ?_ | refine blk_alloc ?_ _)); exact BK125.out⟩
                        have n2_ : Aside0 ((w45.setCell ⟨go27, (((rd_T24 l1 a3_1).f2) : Int).toNat, none⟩ (.int .i64 (wrap64 ((rd y134 ((rd_T24 l1 a3_1).f2)) + ((rd_T24 l1 a3_1).f3))))).heap[gb126]? = some (.cells #[.slice none 0 0, .int .i64 0] 128 (0, 0))) := ⟨by (with_reducible repeat (first | refine blk_drewN ?_ _ | refine blk_drew ?_ | refine blk_alloc ?_ _)); refine blk_far ?_ (by have h_ := Kd.R_ne HO129.out BK126.out (by decide); intro e_; exact h_ (by rw [e_]; rfl)) _; (with_reducible repeat (first | refine blk_drewN ?_ _ | refine blk_drew ?_ | refine blk_alloc ?_ _)); exact BK126.out⟩
                        have n3_ : Aside0 ((w45.setCell ⟨go27, (((rd_T24 l1 a3_1).f2) : Int).toNat, none⟩ (.int .i64 (wrap64 ((rd y134 ((rd_T24 l1 a3_1).f2)) + ((rd_T24 l1 a3_1).f3))))).heap[gb130]? = some (.cells #[.slice (some ⟨go27, 0, none⟩) y127.length co12, .int .i64 0] 128 (0, 0))) := ⟨by (with_reducible repeat (first | refine blk_drewN ?_ _ | refine blk_drew ?_ | refine blk_alloc ?_ _)); refine blk_far ?_ (by have h_ := Kd.R_ne HO129.out BK130.out (by decide); intro e_; exact h_ (by rw [e_]; rfl)) _; (with_reducible repeat (first | refine blk_drewN ?_ _ | refine blk_drew ?_ | refine blk_alloc ?_ _)); exact BK130.out⟩
                        have n4_ : Aside0 ((w45.setCell ⟨go27, (((rd_T24 l1 a3_1).f2) : Int).toNat, none⟩ (.int .i64 (wrap64 ((rd y134 ((rd_T24 l1 a3_1).f2)) + ((rd_T24 l1 a3_1).f3))))).heap[gb133]? = some (.cells #[.int .i64 ((rd_T24 l1 a3_1).f0), .int .i64 ((rd_T24 l1 a3_1).f1), .int .i64 ((rd_T24 l1 a3_1).f2), .int .i64 ((rd_T24 l1 a3_1).f3), .int .i64 ((rd_T24 l1 a3_1).f4)] 24 (0, 0))) := ⟨by (with_reducible repeat (first | refine blk_drewN ?_ _ | refine blk_drew ?_ | refine blk_alloc ?_ _)); refine blk_far ?_ (by have h_ := Kd.R_ne HO129.out BK133.out (by decide); intro e_; exact h_ (by rw [e_]; rfl)) _; (with_reducible repeat (first | refine blk_drewN ?_ _ | refine blk_drew ?_ | refine blk_alloc ?_ _)); exact BK133.out⟩
                        have n5_ : Aside0 (Below w.heap.size w (w45.setCell ⟨go27, (((rd_T24 l1 a3_1).f2) : Int).toNat, none⟩ (.int .i64 (wrap64 ((rd y134 ((rd_T24 l1 a3_1).f2)) + ((rd_T24 l1 a3_1).f3)))))) := ⟨by repeat (first | (with_reducible first | exact HB.out | apply below_alloc | apply pw_below_drewN | apply below_drew1 | refine below_set ?_ GB27.out | refine below_set ?_ GE125.out | refine below_set ?_ GE126.out | refine below_set ?_ GE130.out | refine below_set ?_ GE133.out) | exact HB.out)⟩
                        (try clear HO129)
                        (try clear BK125)
                        (try clear BK126)
                        (try clear BK130)
                        (try clear BK133)
                        (try clear HB)
                        generalize (w45.setCell ⟨go27, (((rd_T24 l1 a3_1).f2) : Int).toNat, none⟩ (.int .i64 (wrap64 ((rd y134 ((rd_T24 l1 a3_1).f2)) + ((rd_T24 l1 a3_1).f3))))) = w47 at n0_ n1_ n2_ n3_ n4_ n5_ ⊢
                        have HO129 := n0_
                        have BK125 := n1_
                        have BK126 := n2_
                        have BK130 := n3_
                        have BK133 := n4_
                        have HB := n5_
                        clear n0_ n1_ n2_ n3_ n4_ n5_
                        have hcz48_0 : w47.cell? ⟨gb133, 0, none⟩ = some (.int .i64 ((rd_T24 l1 a3_1).f0)) := (blk_cell BK133.out 0).trans rfl
                        have hcz48_1 : w47.cell? ⟨gb133, 1, none⟩ = some (.int .i64 ((rd_T24 l1 a3_1).f1)) := (blk_cell BK133.out 1).trans rfl
                        have hcz48_2 : w47.cell? ⟨gb133, 2, none⟩ = some (.int .i64 ((rd_T24 l1 a3_1).f2)) := (blk_cell BK133.out 2).trans rfl
                        have hcz48_3 : w47.cell? ⟨gb133, 3, none⟩ = some (.int .i64 ((rd_T24 l1 a3_1).f3)) := (blk_cell BK133.out 3).trans rfl
                        have hcz48_4 : w47.cell? ⟨gb133, 4, none⟩ = some (.int .i64 ((rd_T24 l1 a3_1).f4)) := (blk_cell BK133.out 4).trans rfl
                        have hfz48_0 := blk_frozen BK133.out 0
                        have hfz48_1 := blk_frozen BK133.out 1
                        have hfz48_2 := blk_frozen BK133.out 2
                        have hfz48_3 := blk_frozen BK133.out 3
                        have hfz48_4 := blk_frozen BK133.out 4
                        have hcz49_0 : w47.cell? ⟨gb130, 0, none⟩ = some (.slice (some ⟨go27, 0, none⟩) y127.length co12) := (blk_cell BK130.out 0).trans rfl
                        have hcz49_1 : w47.cell? ⟨gb130, 1, none⟩ = some (.int .i64 0) := (blk_cell BK130.out 1).trans rfl
                        have hfz49_0 := blk_frozen BK130.out 0
                        have hfz49_1 := blk_frozen BK130.out 1
                        try go_wp2
                        go_meet
                        case rel => exact ⟨_, (0), (y136), ((rd_T24 l1 a3_1).f4), (.slice (some ⟨go27, 0, none⟩) y127.length co12), H', ⟨by first | omega | exact Nat.le_refl _⟩, ⟨by (with_reducible repeat (first | apply Kd.R_alloc | apply Kd.R_drewN | apply Kd.R_drew)); exact Kd.R_mono (Kd.R_far (p := ⟨gb130, 1, none⟩) (Kd.R_types HO129.out BK130.out (by decide)) (fun _ hk => hk.2) (.int .i64 ((rd_T24 l1 a3_1).f4))) (fun _ hk => trivial)⟩, ⟨by (with_reducible repeat (first | refine blk_drewN ?_ _ | refine blk_drew ?_ | refine blk_alloc ?_ _)); refine blk_far ?_ NB125_130.out _; (with_reducible repeat (first | refine blk_drewN ?_ _ | refine blk_drew ?_ | refine blk_alloc ?_ _)); exact BK125.out⟩, ⟨by (with_reducible repeat (first | refine blk_drewN ?_ _ | refine blk_drew ?_ | refine blk_alloc ?_ _)); refine blk_far ?_ NB126_130.out _; (with_reducible repeat (first | refine blk_drewN ?_ _ | refine blk_drew ?_ | refine blk_alloc ?_ _)); exact BK126.out⟩, ⟨by (with_reducible repeat (first | refine blk_drewN ?_ _ | refine blk_drew ?_ | refine blk_alloc ?_ _)); refine blk_put (cs := #[.slice (some ⟨go27, 0, none⟩) y127.length co12, .int .i64 0]) ?_ 1 _ rfl; (with_reducible repeat (first | refine blk_drewN ?_ _ | refine blk_drew ?_ | refine blk_alloc ?_ _)); exact BK130.out⟩, ⟨by repeat (first | (with_reducible first | exact HB.out | apply below_alloc | apply pw_below_drewN | apply below_drew1 | refine below_set ?_ GE125.out | refine below_set ?_ GE126.out | refine below_set ?_ GE130.out | refine below_set ?_ GE133.out) | exact HB.out)⟩⟩
                      · rw [if_neg c29] at H
                        exact absurd H (by simp)
                    · rw [if_neg c28] at H
                      exact absurd H (by simp)
                  · rw [if_neg c26] at H
                    exact absurd H (by simp)
                · rw [if_neg c25] at H
                  exact absurd H (by simp)
              · rw [if_neg c24] at H
                exact absurd H (by simp)
            · rw [if_neg c23] at H
              exact absurd H (by simp)
          · rw [if_neg c22] at H
            have c22b0 : (a3_2 == 0) = false := beq_eq_false_iff_ne.mpr c22
            have c22b1 : (a3_2 != 0) = true := bne_iff_ne.mpr c22
            simp only [Option.some.injEq, Prod.mk.injEq] at H
            obtain ⟨rfl, rfl, rfl⟩ := H
            have hnb50 := NB125_126.out
            have hnc50 := NB126_125.out
            have hnb51 := NB125_130.out
            have hnc51 := NB130_125.out
            have hcz52_0 : w13.cell? ⟨gb125, 0, none⟩ = some (.int .i64 a3_0) := (blk_cell BK125.out 0).trans rfl
            have hcz52_1 : w13.cell? ⟨gb125, 1, none⟩ = some (.int .i64 a3_1) := (blk_cell BK125.out 1).trans rfl
            have hcz52_2 : w13.cell? ⟨gb125, 2, none⟩ = some (.int .i64 a3_2) := (blk_cell BK125.out 2).trans rfl
            have hfz52_0 := blk_frozen BK125.out 0
            have hfz52_1 := blk_frozen BK125.out 1
            have hfz52_2 := blk_frozen BK125.out 2
            go_wp2_with (first | ((with_reducible refine gate_callee (f := 64) rfl ?_); refine goesL_ (some 34) rfl rfl Try.func64 (by kernel_rfl) rfl #[.int .i64 a3_1, .int .i64 0, .int .i64 (wrap64 ((l1.length : Int) - 1))] rfl (by (try simp only [List.map_toArray, List.map_cons, List.map_nil]); first | done | rfl | (simp only [List.length_drop, List.length_take]; rfl)) ?_; (with_reducible refine (cosignerref12_in.calls a3_1 0 (wrap64 ((l1.length : Int) - 1)) true _ A20.out).mono ?_); rintro e w' ⟨rfl, ⟨nd, rfl⟩⟩; refine ⟨_, rfl, ?_⟩; have hnb53 := NB126_130.out; have hnc53 := NB130_126.out; have hcz54_0 : w13.cell? ⟨gb126, 0, none⟩ = some (.slice none 0 0) := (blk_cell BK126.out 0).trans rfl; have hcz54_1 : w13.cell? ⟨gb126, 1, none⟩ = some (.int .i64 0) := (blk_cell BK126.out 1).trans rfl; have hfz54_0 := blk_frozen BK126.out 0; have hfz54_1 := blk_frozen BK126.out 1))
            refine bodyPost_ret (results_ct rfl _ _ gb126 128 #[.slice none 0 0, .int .i64 0] (0, 0) _ rfl (by (with_reducible repeat (first | refine blk_drewN ?_ _ | refine blk_drew ?_ | refine blk_alloc ?_ _)); refine blk_put (cs := #[.slice none 0 0, .int .i64 0]) ?_ 1 _ rfl; (with_reducible repeat (first | refine blk_drewN ?_ _ | refine blk_drew ?_ | refine blk_alloc ?_ _)); refine blk_put (cs := #[.slice none 0 0, .int .i64 0]) ?_ 0 _ rfl; (with_reducible repeat (first | refine blk_drewN ?_ _ | refine blk_drew ?_ | refine blk_alloc ?_ _)); refine blk_far ?_ NB126_130.out _; (with_reducible repeat (first | refine blk_drewN ?_ _ | refine blk_drew ?_ | refine blk_alloc ?_ _)); refine blk_far ?_ NB126_130.out _; (with_reducible repeat (first | refine blk_drewN ?_ _ | refine blk_drew ?_ | refine blk_alloc ?_ _)); exact BK126.out) Try.underlying128 rfl (by kernel_rfl)) rfl ?_
            exact ⟨_, by first | rfl | (simp [errW_none, errW_some] <;> rfl) | (simp [*, errW_none, errW_some] <;> rfl), by first | exact Kd.R_nil _ _ _ _ _ | exact Kd.N_nil _ _ _ _ _ | exact Kd.V_nil _ _ _ _ _ | exact Kd.Q_nil _ _ _ _ _ | exact Kd.S_nil _ _ _ _ _, by repeat (first | (with_reducible first | exact HB.out | apply below_alloc | apply pw_below_drewN | apply below_drew1 | refine below_set ?_ GE125.out | refine below_set ?_ GE126.out | refine below_set ?_ GE130.out) | exact HB.out)⟩
        · replace c21 := Bool.eq_false_iff.mpr c21
          subst c21
          have H1 : (some (([] : List Int), 0, false)) = some (r1, r2, r3) := by rw [if_neg (show ¬ (false = true) by decide)] at H; exact H
          clear H
          have H := H1
          clear H1
          simp only [Option.some.injEq, Prod.mk.injEq] at H
          obtain ⟨rfl, rfl, rfl⟩ := H
          have hnb55 := NB125_126.out
          have hnc55 := NB126_125.out
          have hnb56 := NB125_130.out
          have hnc56 := NB130_125.out
          have hcz57_0 : w13.cell? ⟨gb125, 0, none⟩ = some (.int .i64 a3_0) := (blk_cell BK125.out 0).trans rfl
          have hcz57_1 : w13.cell? ⟨gb125, 1, none⟩ = some (.int .i64 a3_1) := (blk_cell BK125.out 1).trans rfl
          have hcz57_2 : w13.cell? ⟨gb125, 2, none⟩ = some (.int .i64 a3_2) := (blk_cell BK125.out 2).trans rfl
          have hfz57_0 := blk_frozen BK125.out 0
          have hfz57_1 := blk_frozen BK125.out 1
          have hfz57_2 := blk_frozen BK125.out 2
          go_wp2_with (first | ((with_reducible refine gate_callee (f := 64) rfl ?_); refine goesL_ (some 34) rfl rfl Try.func64 (by kernel_rfl) rfl #[.int .i64 a3_1, .int .i64 0, .int .i64 (wrap64 ((l1.length : Int) - 1))] rfl (by (try simp only [List.map_toArray, List.map_cons, List.map_nil]); first | done | rfl | (simp only [List.length_drop, List.length_take]; rfl)) ?_; (with_reducible refine (cosignerref12_in.calls a3_1 0 (wrap64 ((l1.length : Int) - 1)) false _ A20.out).mono ?_); rintro e w' ⟨rfl, ⟨nd, rfl⟩⟩; refine ⟨_, rfl, ?_⟩; have hnb58 := NB126_130.out; have hnc58 := NB130_126.out; have hcz59_0 : w13.cell? ⟨gb126, 0, none⟩ = some (.slice none 0 0) := (blk_cell BK126.out 0).trans rfl; have hcz59_1 : w13.cell? ⟨gb126, 1, none⟩ = some (.int .i64 0) := (blk_cell BK126.out 1).trans rfl; have hfz59_0 := blk_frozen BK126.out 0; have hfz59_1 := blk_frozen BK126.out 1))
          refine bodyPost_ret (results_ct rfl _ _ gb126 128 #[.slice none 0 0, .int .i64 0] (0, 0) _ rfl (by (with_reducible repeat (first | refine blk_drewN ?_ _ | refine blk_drew ?_ | refine blk_alloc ?_ _)); refine blk_put (cs := #[.slice none 0 0, .int .i64 0]) ?_ 1 _ rfl; (with_reducible repeat (first | refine blk_drewN ?_ _ | refine blk_drew ?_ | refine blk_alloc ?_ _)); refine blk_put (cs := #[.slice none 0 0, .int .i64 0]) ?_ 0 _ rfl; (with_reducible repeat (first | refine blk_drewN ?_ _ | refine blk_drew ?_ | refine blk_alloc ?_ _)); refine blk_far ?_ NB126_130.out _; (with_reducible repeat (first | refine blk_drewN ?_ _ | refine blk_drew ?_ | refine blk_alloc ?_ _)); refine blk_far ?_ NB126_130.out _; (with_reducible repeat (first | refine blk_drewN ?_ _ | refine blk_drew ?_ | refine blk_alloc ?_ _)); exact BK126.out) Try.underlying128 rfl (by kernel_rfl)) rfl ?_
          exact ⟨_, by first | rfl | (simp [errW_none, errW_some] <;> rfl) | (simp [*, errW_none, errW_some] <;> rfl), by first | exact Kd.R_nil _ _ _ _ _ | exact Kd.N_nil _ _ _ _ _ | exact Kd.V_nil _ _ _ _ _ | exact Kd.Q_nil _ _ _ _ _ | exact Kd.S_nil _ _ _ _ _, by repeat (first | (with_reducible first | exact HB.out | apply below_alloc | apply pw_below_drewN | apply below_drew1 | refine below_set ?_ GE125.out | refine below_set ?_ GE126.out | refine below_set ?_ GE130.out) | exact HB.out)⟩
      · rw [if_neg c19] at H
        have c19b0 : (a3_0 == 1) = false := beq_eq_false_iff_ne.mpr c19
        have c19b1 : (a3_0 != 1) = true := bne_iff_ne.mpr c19
        (first | rw [c19b0] | (simp only [i64_w, i32_w]; rw [c19b0]) | skip)
        by_cases c60 : a3_0 = 2
        · rw [if_pos c60] at H
          have c60b0 : (a3_0 == 2) = true := beq_iff_eq.mpr c60
          have c60b1 : (a3_0 != 2) = false := bne_eq_false_iff_eq.mpr c60
          clear c60
          replace H := Option.bind_eq_some_iff.mp H
          obtain ⟨t137, A610, H⟩ := H
          replace H : ((cosignerref12_in.f a3_2 0 (wrap64 ((l2.length : Int) - 1))).bind fun t138 => (if t137 = true then (cosignerref12_step.j0 k a0 l2 (!t138) a3_0 a3_1 a3_2 y127 0) else (cosignerref12_step.j0 k a0 l2 true a3_0 a3_1 a3_2 y127 0))) = some (r1, r2, r3) := H
          have A61 := Aside0.mk A610
          clear A610
          replace H := Option.bind_eq_some_iff.mp H
          obtain ⟨t138, A620, H⟩ := H
          replace H : (if t137 = true then (cosignerref12_step.j0 k a0 l2 (!t138) a3_0 a3_1 a3_2 y127 0) else (cosignerref12_step.j0 k a0 l2 true a3_0 a3_1 a3_2 y127 0)) = some (r1, r2, r3) := H
          have A62 := Aside0.mk A620
          clear A620
          have HC63 := Aside0.mk H
          clear H
          have hnb64 := NB125_126.out
          have hnc64 := NB126_125.out
          have hnb65 := NB125_130.out
          have hnc65 := NB130_125.out
          have hcz66_0 : w13.cell? ⟨gb125, 0, none⟩ = some (.int .i64 a3_0) := (blk_cell BK125.out 0).trans rfl
          have hcz66_1 : w13.cell? ⟨gb125, 1, none⟩ = some (.int .i64 a3_1) := (blk_cell BK125.out 1).trans rfl
          have hcz66_2 : w13.cell? ⟨gb125, 2, none⟩ = some (.int .i64 a3_2) := (blk_cell BK125.out 2).trans rfl
          have hfz66_0 := blk_frozen BK125.out 0
          have hfz66_1 := blk_frozen BK125.out 1
          have hfz66_2 := blk_frozen BK125.out 2
          go_upto_region 15 with (first | ((with_reducible refine gate_callee (f := 64) rfl ?_); refine goesL_ (some 79) rfl rfl Try.func64 (by kernel_rfl) rfl #[.int .i64 a3_1, .int .i64 0, .int .i64 (wrap64 ((l2.length : Int) - 1))] rfl (by (try simp only [List.map_toArray, List.map_cons, List.map_nil]); first | done | rfl | (simp only [List.length_drop, List.length_take]; rfl)) ?_; (with_reducible refine (cosignerref12_in.calls a3_1 0 (wrap64 ((l2.length : Int) - 1)) t137 _ A61.out).mono ?_); rintro e w' ⟨rfl, ⟨nd, rfl⟩⟩; refine ⟨_, rfl, ?_⟩) | ((with_reducible refine gate_callee (f := 64) rfl ?_); refine goesL_ (some 85) rfl rfl Try.func64 (by kernel_rfl) rfl #[.int .i64 a3_2, .int .i64 0, .int .i64 (wrap64 ((l2.length : Int) - 1))] rfl (by (try simp only [List.map_toArray, List.map_cons, List.map_nil]); first | done | rfl | (simp only [List.length_drop, List.length_take]; rfl)) ?_; (with_reducible refine (cosignerref12_in.calls a3_2 0 (wrap64 ((l2.length : Int) - 1)) t138 _ A62.out).mono ?_); rintro e w' ⟨rfl, ⟨nd, rfl⟩⟩; refine ⟨_, rfl, ?_⟩))
          (try simp only [Act.put, List.setIfInBounds_toArray, List.set_cons_zero, List.set_cons_succ])
          go_cut [91] (fun v91 wc => ∃ (kq : Nat) (x91_62 : Bool), v91 = .bool x91_62 ∧ Aside0 (cosignerref12_step.j0 kq a0 l2 x91_62 a3_0 a3_1 a3_2 y127 0 = some (r1, r2, r3)) ∧ Aside0 (kq ≤ k) ∧ Aside0 (Kd.R (Kd.int .i64) 3 wc w.heap.size (fun _ => True) (.slice Ao12 y127.length co12) y127) ∧ Aside0 (wc.heap[gb125]? = some (.cells #[.int .i64 a3_0, .int .i64 a3_1, .int .i64 a3_2] 166 (0, 0))) ∧ Aside0 (wc.heap[gb126]? = some (.cells #[(.slice none 0 0), .int .i64 0] 128 (0, 0))) ∧ Aside0 (wc.heap[gb130]? = some (.cells #[(.slice Ao12 y127.length co12), .int .i64 0] 128 (0, 0))) ∧ Aside0 (Below w.heap.size w wc))
          case first =>
           have H := HC63.out
           clear HC63
           by_cases c67 : t137 = true
           · subst c67
             have H1 : (cosignerref12_step.j0 k a0 l2 (!t138) a3_0 a3_1 a3_2 y127 0) = some (r1, r2, r3) := by rw [if_pos rfl] at H; exact H
             clear H
             have H := H1
             clear H1
             have H' := Aside0.mk H
             clear H
             go_wp2
             go_meet
             case rel => exact ⟨_, (!t138), (by first | rfl | (simp; done) | (simp [*]; done)), H', ⟨by first | omega | exact Nat.le_refl _⟩, ⟨by (with_reducible repeat (first | apply Kd.R_alloc | apply Kd.R_drewN | apply Kd.R_drew)); exact Kd.R_mono (Kd.R_far (p := ⟨gb130, 1, none⟩) (Kd.R_far (p := ⟨gb130, 0, none⟩) (Kd.R_types HO129.out BK130.out (by decide)) (fun _ hk => hk.2) (.slice Ao12 y127.length co12)) (fun _ hk => hk.2) (.int .i64 0)) (fun _ hk => trivial)⟩, ⟨by (with_reducible repeat (first | refine blk_drewN ?_ _ | refine blk_drew ?_ | refine blk_alloc ?_ _)); refine blk_far ?_ NB125_130.out _; (with_reducible repeat (first | refine blk_drewN ?_ _ | refine blk_drew ?_ | refine blk_alloc ?_ _)); refine blk_far ?_ NB125_130.out _; (with_reducible repeat (first | refine blk_drewN ?_ _ | refine blk_drew ?_ | refine blk_alloc ?_ _)); exact BK125.out⟩, ⟨by (with_reducible repeat (first | refine blk_drewN ?_ _ | refine blk_drew ?_ | refine blk_alloc ?_ _)); refine blk_far ?_ NB126_130.out _; (with_reducible repeat (first | refine blk_drewN ?_ _ | refine blk_drew ?_ | refine blk_alloc ?_ _)); refine blk_far ?_ NB126_130.out _; (with_reducible repeat (first | refine blk_drewN ?_ _ | refine blk_drew ?_ | refine blk_alloc ?_ _)); exact BK126.out⟩, ⟨by (with_reducible repeat (first | refine blk_drewN ?_ _ | refine blk_drew ?_ | refine blk_alloc ?_ _)); refine blk_put (cs := #[.slice Ao12 y127.length co12, .int .i64 0]) ?_ 1 _ rfl; (with_reducible repeat (first | refine blk_drewN ?_ _ | refine blk_drew ?_ | refine blk_alloc ?_ _)); refine blk_put (cs := #[.slice none 0 0, .int .i64 0]) ?_ 0 _ rfl; (with_reducible repeat (first | refine blk_drewN ?_ _ | refine blk_drew ?_ | refine blk_alloc ?_ _)); exact BK130.out⟩, ⟨by repeat (first | (with_reducible first | exact HB.out | apply below_alloc | apply pw_below_drewN | apply below_drew1 | refine below_set ?_ GE125.out | refine below_set ?_ GE126.out | refine below_set ?_ GE130.out) | exact HB.out)⟩⟩
           · replace c67 := Bool.eq_false_iff.mpr c67
             subst c67
             have H1 : (cosignerref12_step.j0 k a0 l2 true a3_0 a3_1 a3_2 y127 0) = some (r1, r2, r3) := by rw [if_neg (show ¬ (false = true) by decide)] at H; exact H
             clear H
             have H := H1
             clear H1
             have H' := Aside0.mk H
             clear H
             go_wp2
             go_meet
             case rel => exact ⟨_, (true), (by first | rfl | (simp; done) | (simp [*]; done)), H', ⟨by first | omega | exact Nat.le_refl _⟩, ⟨by (with_reducible repeat (first | apply Kd.R_alloc | apply Kd.R_drewN | apply Kd.R_drew)); exact Kd.R_mono (Kd.R_far (p := ⟨gb130, 1, none⟩) (Kd.R_far (p := ⟨gb130, 0, none⟩) (Kd.R_types HO129.out BK130.out (by decide)) (fun _ hk => hk.2) (.slice Ao12 y127.length co12)) (fun _ hk => hk.2) (.int .i64 0)) (fun _ hk => trivial)⟩, ⟨by (with_reducible repeat (first | refine blk_drewN ?_ _ | refine blk_drew ?_ | refine blk_alloc ?_ _)); refine blk_far ?_ NB125_130.out _; (with_reducible repeat (first | refine blk_drewN ?_ _ | refine blk_drew ?_ | refine blk_alloc ?_ _)); refine blk_far ?_ NB125_130.out _; (with_reducible repeat (first | refine blk_drewN ?_ _ | refine blk_drew ?_ | refine blk_alloc ?_ _)); exact BK125.out⟩, ⟨by (with_reducible repeat (first | refine blk_drewN ?_ _ | refine blk_drew ?_ | refine blk_alloc ?_ _)); refine blk_far ?_ NB126_130.out _; (with_reducible repeat (first | refine blk_drewN ?_ _ | refine blk_drew ?_ | refine blk_alloc ?_ _)); refine blk_far ?_ NB126_130.out _; (with_reducible repeat (first | refine blk_drewN ?_ _ | refine blk_drew ?_ | refine blk_alloc ?_ _)); exact BK126.out⟩, ⟨by (with_reducible repeat (first | refine blk_drewN ?_ _ | refine blk_drew ?_ | refine blk_alloc ?_ _)); refine blk_put (cs := #[.slice Ao12 y127.length co12, .int .i64 0]) ?_ 1 _ rfl; (with_reducible repeat (first | refine blk_drewN ?_ _ | refine blk_drew ?_ | refine blk_alloc ?_ _)); refine blk_put (cs := #[.slice none 0 0, .int .i64 0]) ?_ 0 _ rfl; (with_reducible repeat (first | refine blk_drewN ?_ _ | refine blk_drew ?_ | refine blk_alloc ?_ _)); exact BK130.out⟩, ⟨by repeat (first | (with_reducible first | exact HB.out | apply below_alloc | apply pw_below_drewN | apply below_drew1 | refine below_set ?_ GE125.out | refine below_set ?_ GE126.out | refine below_set ?_ GE130.out) | exact HB.out)⟩⟩
          case rest =>
           clear HC63
           try clear c1
           try clear p1
           try clear q1
           try clear hx1
           try clear c2
           try clear p2
           try clear q2
           try clear hx2
           try clear c3
           try clear p3
           try clear q3
           try clear hx3
           try clear c4
           try clear c5
           try clear c5b0
           try clear c5b1
           try clear c6
           try clear c6b0
           try clear c6b1
           try clear p6
           try clear c11
           try clear p13
           try clear q13
           try clear hx13
           try clear c14
           try clear c15
           try clear c17
           try clear c19
           try clear c19b0
           try clear c19b1
           try clear c21
           try clear c22
           try clear c22b0
           try clear c22b1
           try clear c23
           try clear c23b0
           try clear c24
           try clear c24b0
           try clear c25
           try clear c25b0
           try clear c26
           try clear c26b0
           try clear p27
           try clear q27
           try clear hx27
           try clear hf27
           try clear c28
           try clear c28b0
           try clear c29
           try clear c29b0
           try clear p30
           try clear q30
           try clear hx30
           try clear hf30
           try clear c31
           try clear c32
           try clear c35
           try clear c36
           try clear c37
           try clear c40
           try clear c50
           try clear c51
           try clear c53
           try clear c55
           try clear c56
           try clear c58
           try clear c60
           try clear c60b0
           try clear c60b1
           try clear c64
           try clear p64
           try clear c65
           try clear c67
           try clear hcz16_0
           try clear hcz16_1
           try clear hcz18_0
           try clear hcz18_1
           try clear hcz18_2
           try clear hcz33_0
           try clear hcz33_1
           try clear hcz33_2
           try clear hcz38_0
           try clear hcz38_1
           try clear hcz38_2
           try clear hcz38_3
           try clear hcz38_4
           try clear hcz41_0
           try clear hcz41_1
           try clear hcz42_0
           try clear hcz42_1
           try clear hcz42_2
           try clear hcz42_3
           try clear hcz42_4
           try clear hcz48_0
           try clear hcz48_1
           try clear hcz48_2
           try clear hcz48_3
           try clear hcz48_4
           try clear hcz49_0
           try clear hcz49_1
           try clear hcz52_0
           try clear hcz52_1
           try clear hcz52_2
           try clear hcz54_0
           try clear hcz54_1
           try clear hcz57_0
           try clear hcz57_1
           try clear hcz57_2
           try clear hcz59_0
           try clear hcz59_1
           try clear hcz66_0
           try clear hcz66_1
           try clear hcz66_2
           try clear hfz16_0
           try clear hfz16_1
           try clear hfz18_0
           try clear hfz18_1
           try clear hfz18_2
           try clear hfz33_0
           try clear hfz33_1
           try clear hfz33_2
           try clear hfz38_0
           try clear hfz38_1
           try clear hfz38_2
           try clear hfz38_3
           try clear hfz38_4
           try clear hfz41_0
           try clear hfz41_1
           try clear hfz42_0
           try clear hfz42_1
           try clear hfz42_2
           try clear hfz42_3
           try clear hfz42_4
           try clear hfz48_0
           try clear hfz48_1
           try clear hfz48_2
           try clear hfz48_3
           try clear hfz48_4
           try clear hfz49_0
           try clear hfz49_1
           try clear hfz52_0
           try clear hfz52_1
           try clear hfz52_2
           try clear hfz54_0
           try clear hfz54_1
           try clear hfz57_0
           try clear hfz57_1
           try clear hfz57_2
           try clear hfz59_0
           try clear hfz59_1
           try clear hfz66_0
           try clear hfz66_1
           try clear hfz66_2
           try clear hx132_0
           try clear hx132_1
           try clear hx132_2
           try clear hx132_3
           try clear hx132_4
           try clear hx135_0
           try clear hx27_0
           try clear hx30_0
           try clear p132
           try clear p135
           try clear p27
           try clear p30
           try clear q132
           try clear q135
           try clear q27
           try clear q30
           obtain ⟨kq, x91_62, rfl, HA, HJ62, HO_131000, BK125, BK126, BK130, HB⟩ := hcut
           cases kq with
           | zero => exact absurd HA.out (by simp [cosignerref12_step.j0])
           | succ kj62 =>
            have H := HA.out
            clear HA
            simp only [cosignerref12_step.j0] at H
            by_cases c68 : x91_62 = true
            · subst c68
              have H1 : (some (([] : List Int), 0, false)) = some (r1, r2, r3) := by rw [if_pos rfl] at H; exact H
              clear H
              have H := H1
              clear H1
              simp only [Option.some.injEq, Prod.mk.injEq] at H
              obtain ⟨rfl, rfl, rfl⟩ := H
              have hnb69 := NB126_125.out
              have hnc69 := NB125_126.out
              have hnb70 := NB126_130.out
              have hnc70 := NB130_126.out
              have hcz71_0 : wc.cell? ⟨gb126, 0, none⟩ = some (.slice none 0 0) := (blk_cell BK126.out 0).trans rfl
              have hcz71_1 : wc.cell? ⟨gb126, 1, none⟩ = some (.int .i64 0) := (blk_cell BK126.out 1).trans rfl
              have hfz71_0 := blk_frozen BK126.out 0
              have hfz71_1 := blk_frozen BK126.out 1
              go_wp2
              refine bodyPost_ret (results_ct rfl _ _ gb126 128 #[.slice none 0 0, .int .i64 0] (0, 0) _ rfl (by (with_reducible repeat (first | refine blk_drewN ?_ _ | refine blk_drew ?_ | refine blk_alloc ?_ _)); refine blk_put (cs := #[.slice none 0 0, .int .i64 0]) ?_ 1 _ rfl; (with_reducible repeat (first | refine blk_drewN ?_ _ | refine blk_drew ?_ | refine blk_alloc ?_ _)); refine blk_put (cs := #[.slice none 0 0, .int .i64 0]) ?_ 0 _ rfl; (with_reducible repeat (first | refine blk_drewN ?_ _ | refine blk_drew ?_ | refine blk_alloc ?_ _)); exact BK126.out) Try.underlying128 rfl (by kernel_rfl)) rfl ?_
              exact ⟨_, by first | rfl | (simp [errW_none, errW_some] <;> rfl) | (simp [*, errW_none, errW_some] <;> rfl), by first | exact Kd.R_nil _ _ _ _ _ | exact Kd.N_nil _ _ _ _ _ | exact Kd.V_nil _ _ _ _ _ | exact Kd.Q_nil _ _ _ _ _ | exact Kd.S_nil _ _ _ _ _, by repeat (first | (with_reducible first | exact HB.out | apply below_alloc | apply pw_below_drewN | apply below_drew1 | refine below_set ?_ GE125.out | refine below_set ?_ GE126.out | refine below_set ?_ GE130.out) | exact HB.out)⟩
            · replace c68 := Bool.eq_false_iff.mpr c68
              subst c68
              have H1 : (cosignerref12_step.l0 kj62 a0 l2 0 a3_0 a3_1 a3_2 y127 0) = some (r1, r2, r3) := by rw [if_neg (show ¬ (false = true) by decide)] at H; exact H
              clear H
              have H := H1
              clear H1
              have H' := Aside0.mk H
              clear H
              go_wp2
              go_loopg [15] kj62 (fun kq v15 w' => ∃ (x15_2 : Int) (x131000_2 : List Int) (u131000 : Value), v15 = .int .i64 x15_2 ∧ Aside0 (cosignerref12_step.l0 kq a0 l2 x15_2 a3_0 a3_1 a3_2 x131000_2 0 = some (r1, r2, r3)) ∧ Aside0 (kq ≤ kj62) ∧ Aside0 (Kd.R (Kd.int .i64) 3 w' w.heap.size (fun _ => True) u131000 x131000_2) ∧ Aside0 (w'.heap[gb125]? = some (.cells #[.int .i64 a3_0, .int .i64 a3_1, .int .i64 a3_2] 166 (0, 0))) ∧ Aside0 (w'.heap[gb126]? = some (.cells #[(.slice none 0 0), .int .i64 0] 128 (0, 0))) ∧ Aside0 (w'.heap[gb130]? = some (.cells #[u131000, .int .i64 0] 128 (0, 0))) ∧ Aside0 (Below w.heap.size w w'))
              case atStart => exact ⟨(0), (y127), (.slice Ao12 y127.length co12), (by first | rfl | (simp; done) | (simp [*]; done)), H', ⟨Nat.le_refl _⟩, ⟨by (with_reducible repeat (first | apply Kd.R_alloc | apply Kd.R_drewN | apply Kd.R_drew)); exact HO_131000.out⟩, ⟨by (with_reducible repeat (first | refine blk_drewN ?_ _ | refine blk_drew ?_ | refine blk_alloc ?_ _)); exact BK125.out⟩, ⟨by (with_reducible repeat (first | refine blk_drewN ?_ _ | refine blk_drew ?_ | refine blk_alloc ?_ _)); exact BK126.out⟩, ⟨by (with_reducible repeat (first | refine blk_drewN ?_ _ | refine blk_drew ?_ | refine blk_alloc ?_ _)); exact BK130.out⟩, ⟨by repeat (first | (with_reducible first | exact HB.out | apply below_alloc | apply pw_below_drewN | apply below_drew1 | refine below_set ?_ GE125.out | refine below_set ?_ GE126.out | refine below_set ?_ GE130.out) | exact HB.out)⟩⟩
              case round =>
               clear H'
               try clear c1
               try clear p1
               try clear q1
               try clear hx1
               try clear c2
               try clear p2
               try clear q2
               try clear hx2
               try clear c3
               try clear p3
               try clear q3
               try clear hx3
               try clear c4
               try clear c5
               try clear c5b0
               try clear c5b1
               try clear c6
               try clear c6b0
               try clear c6b1
               try clear p6
               try clear c7
               try clear c11
               try clear p13
               try clear q13
               try clear hx13
               try clear c14
               try clear c15
               try clear c17
               try clear c19
               try clear c19b0
               try clear c19b1
               try clear c21
               try clear c22
               try clear c22b0
               try clear c22b1
               try clear c23
               try clear c23b0
               try clear c24
               try clear c24b0
               try clear c25
               try clear c25b0
               try clear c26
               try clear c26b0
               try clear p27
               try clear q27
               try clear hx27
               try clear hf27
               try clear c28
               try clear c28b0
               try clear c29
               try clear c29b0
               try clear p30
               try clear q30
               try clear hx30
               try clear hf30
               try clear c31
               try clear c32
               try clear c35
               try clear c36
               try clear c37
               try clear c40
               try clear c50
               try clear c51
               try clear c53
               try clear c55
               try clear c56
               try clear c58
               try clear c60
               try clear c60b0
               try clear c60b1
               try clear c64
               try clear p64
               try clear c65
               try clear c67
               try clear c68
               try clear c69
               try clear c70
               try clear hcz16_0
               try clear hcz16_1
               try clear hcz18_0
               try clear hcz18_1
               try clear hcz18_2
               try clear hcz33_0
               try clear hcz33_1
               try clear hcz33_2
               try clear hcz38_0
               try clear hcz38_1
               try clear hcz38_2
               try clear hcz38_3
               try clear hcz38_4
               try clear hcz41_0
               try clear hcz41_1
               try clear hcz42_0
               try clear hcz42_1
               try clear hcz42_2
               try clear hcz42_3
               try clear hcz42_4
               try clear hcz48_0
               try clear hcz48_1
               try clear hcz48_2
               try clear hcz48_3
               try clear hcz48_4
               try clear hcz49_0
               try clear hcz49_1
               try clear hcz52_0
               try clear hcz52_1
               try clear hcz52_2
               try clear hcz54_0
               try clear hcz54_1
               try clear hcz57_0
               try clear hcz57_1
               try clear hcz57_2
               try clear hcz59_0
               try clear hcz59_1
               try clear hcz66_0
               try clear hcz66_1
               try clear hcz66_2
               try clear hcz71_0
               try clear hcz71_1
               try clear hfz16_0
               try clear hfz16_1
               try clear hfz18_0
               try clear hfz18_1
               try clear hfz18_2
               try clear hfz33_0
               try clear hfz33_1
               try clear hfz33_2
               try clear hfz38_0
               try clear hfz38_1
               try clear hfz38_2
               try clear hfz38_3
               try clear hfz38_4
               try clear hfz41_0
               try clear hfz41_1
               try clear hfz42_0
               try clear hfz42_1
               try clear hfz42_2
               try clear hfz42_3
               try clear hfz42_4
               try clear hfz48_0
               try clear hfz48_1
               try clear hfz48_2
               try clear hfz48_3
               try clear hfz48_4
               try clear hfz49_0
               try clear hfz49_1
               try clear hfz52_0
               try clear hfz52_1
               try clear hfz52_2
               try clear hfz54_0
               try clear hfz54_1
               try clear hfz57_0
               try clear hfz57_1
               try clear hfz57_2
               try clear hfz59_0
               try clear hfz59_1
               try clear hfz66_0
               try clear hfz66_1
               try clear hfz66_2
               try clear hfz71_0
               try clear hfz71_1
               try clear hx132_0
               try clear hx132_1
               try clear hx132_2
               try clear hx132_3
               try clear hx132_4
               try clear hx135_0
               try clear hx27_0
               try clear hx30_0
               try clear p1
               try clear p13
               try clear p132
               try clear p135
               try clear p2
               try clear p27
               try clear p3
               try clear p30
               try clear p6
               try clear p64
               try clear q1
               try clear q13
               try clear q132
               try clear q135
               try clear q2
               try clear q27
               try clear q3
               try clear q30
               obtain ⟨x15_2, x131000_2, u131000, rfl, HA, HK2, HO_131000, BK125, BK126, BK130, HB⟩ := hrel
               cases gk with
               | zero => exact absurd HA.out (by simp [cosignerref12_step.l0])
               | succ k2 =>
                have H := HA.out
                clear HA
                simp only [cosignerref12_step.l0] at H
                by_cases c72 : x15_2 < a0
                · rw [if_pos c72] at H
                  have c72b0 : decide (x15_2 < a0) = true := decide_eq_true c72
                  clear c72
                  by_cases c73 : 0 ≤ a3_1
                  · rw [if_pos c73] at H
                    have c73b0 : decide (0 ≤ a3_1) = true := decide_eq_true c73
                    clear c73
                    by_cases c74 : a3_1 < (l2.length : Int)
                    · rw [if_pos c74] at H
                      have c74b0 : decide (a3_1 < (l2.length : Int)) = true := decide_eq_true c74
                      clear c74
                      by_cases c75 : 0 ≤ x15_2
                      · rw [if_pos c75] at H
                        have c75b0 : decide (0 ≤ x15_2) = true := decide_eq_true c75
                        clear c75
                        by_cases c76 : x15_2 < (((rd_T128 l2 a3_1).f0).length : Int)
                        · rw [if_pos c76] at H
                          have c76b0 : decide (x15_2 < (((rd_T128 l2 a3_1).f0).length : Int)) = true := decide_eq_true c76
                          clear c76
                          by_cases c77 : 0 ≤ a3_2
                          · rw [if_pos c77] at H
                            have c77b0 : decide (0 ≤ a3_2) = true := decide_eq_true c77
                            clear c77
                            by_cases c78 : a3_2 < (l2.length : Int)
                            · rw [if_pos c78] at H
                              have c78b0 : decide (a3_2 < (l2.length : Int)) = true := decide_eq_true c78
                              clear c78
                              by_cases c79 : x15_2 < (((rd_T128 l2 a3_2).f0).length : Int)
                              · rw [if_pos c79] at H
                                have c79b0 : decide (x15_2 < (((rd_T128 l2 a3_2).f0).length : Int)) = true := decide_eq_true c79
                                clear c79
                                by_cases c80 : x15_2 < (x131000_2.length : Int)
                                · rw [if_pos c80] at H
                                  have c80b0 : decide (x15_2 < (x131000_2.length : Int)) = true := decide_eq_true c80
                                  clear c80
                                  obtain ⟨y143, hy143⟩ : ∃ y_ : List Int, y_ = (x131000_2.set (x15_2 : Int).toNat (wrap64 ((rd ((rd_T128 l2 a3_1).f0) x15_2) + (rd ((rd_T128 l2 a3_2).f0) x15_2)))) := ⟨_, rfl⟩
                                  replace H : (cosignerref12_step.l0 k2 a0 l2 (wrap64 (x15_2 + 1)) a3_0 a3_1 a3_2 y143 0) = some (r1, r2, r3) := by first | (rw [hy143]; with_reducible exact H) | (have H2_ := (Option.bind_some _ _).symm.trans H; rw [hy143]; with_reducible exact H2_) | (have H2_ := (Option.bind_some _ _).symm.trans H; with_reducible exact H2_) | with_reducible exact H | (rw [hy143]; exact H) | exact H
                                  have Ny143 := Aside0.mk hy143
                                  clear hy143
                                  have H' := Aside0.mk H
                                  clear H
                                  try go_wp2
                                  have n0_ := Aside0.mk (Kd.R_drew HO_131000.out)
                                  have n1_ := Aside0.mk (blk_drew BK125.out)
                                  have n2_ := Aside0.mk (blk_drew BK126.out)
                                  have n3_ := Aside0.mk (blk_drew BK130.out)
                                  have n4_ := Aside0.mk (below_drew1 HB.out)
                                  clear HO_131000
                                  clear BK125
                                  clear BK126
                                  clear BK130
                                  clear HB
                                  have HO_131000 := n0_
                                  have BK125 := n1_
                                  have BK126 := n2_
                                  have BK130 := n3_
                                  have HB := n4_
                                  clear n0_ n1_ n2_ n3_ n4_
                                  have p139 : 0 ≤ (a3_1 : Int) := of_decide_eq_true (by first | (with_reducible assumption) | assumption)
                                  have q139 : a3_1 < (l2.length : Int) := of_decide_eq_true (by first | (with_reducible assumption) | assumption)
                                  obtain ⟨ad139, A139_0, c139_0, e139, hx139_0, hx139_1, hl139_0, hi139_0⟩ := at_T128 HR2.out a3_1 p139 q139
                                  have hw139_1 := hx139_1
                                  have hw139_0 := hx139_0
                                  cases e139
                                  replace hx139_0 := (HB.out.cell (World.block_lt_of_cell? w _ hx139_0)).trans hx139_0
                                  replace hx139_1 := (HB.out.cell (World.block_lt_of_cell? w _ hx139_1)).trans hx139_1
                                  have HR139_0 := Aside0.mk hi139_0
                                  have HC139_0 := Aside0.mk hl139_0
                                  clear hi139_0 hl139_0
                                  replace p139 := eq_true p139
                                  replace q139 := eq_true q139
                                  have p140 : 0 ≤ (x15_2 : Int) := of_decide_eq_true (by first | (with_reducible assumption) | assumption)
                                  have q140 : x15_2 < (((rd_T128 l2 a3_1).f0).length : Int) := of_decide_eq_true (by first | (with_reducible assumption) | assumption)
                                  obtain ⟨ad140, e140, hx140_0⟩ := Kd.at_int HR139_0.out x15_2 p140 q140
                                  have hw140_0 := hx140_0
                                  cases e140
                                  replace hx140_0 := (HB.out.cell (World.block_lt_of_cell? w _ hx140_0)).trans hx140_0
                                  replace p140 := eq_true p140
                                  replace q140 := eq_true q140
                                  have p141 : 0 ≤ (a3_2 : Int) := of_decide_eq_true (by first | (with_reducible assumption) | assumption)
                                  have q141 : a3_2 < (l2.length : Int) := of_decide_eq_true (by first | (with_reducible assumption) | assumption)
                                  obtain ⟨ad141, A141_0, c141_0, e141, hx141_0, hx141_1, hl141_0, hi141_0⟩ := at_T128 HR2.out a3_2 p141 q141
                                  have hw141_1 := hx141_1
                                  have hw141_0 := hx141_0
                                  obtain rfl : ad139 = ad141 := (by injection e141)
                                  replace hx141_0 := (HB.out.cell (World.block_lt_of_cell? w _ hx141_0)).trans hx141_0
                                  replace hx141_1 := (HB.out.cell (World.block_lt_of_cell? w _ hx141_1)).trans hx141_1
                                  have HR141_0 := Aside0.mk hi141_0
                                  have HC141_0 := Aside0.mk hl141_0
                                  clear hi141_0 hl141_0
                                  replace p141 := eq_true p141
                                  replace q141 := eq_true q141
                                  have p142 : 0 ≤ (x15_2 : Int) := of_decide_eq_true (by first | (with_reducible assumption) | assumption)
                                  have q142 : x15_2 < (((rd_T128 l2 a3_2).f0).length : Int) := of_decide_eq_true (by first | (with_reducible assumption) | assumption)
                                  obtain ⟨ad142, e142, hx142_0⟩ := Kd.at_int HR141_0.out x15_2 p142 q142
                                  have hw142_0 := hx142_0
                                  cases e142
                                  replace hx142_0 := (HB.out.cell (World.block_lt_of_cell? w _ hx142_0)).trans hx142_0
                                  replace p142 := eq_true p142
                                  replace q142 := eq_true q142
                                  have p81 : 0 ≤ (x15_2 : Int) := of_decide_eq_true (by first | (with_reducible assumption) | assumption)
                                  have q81 : (x15_2 : Int) < ((x131000_2.length : Int) : Int) := of_decide_eq_true (by first | (with_reducible assumption) | assumption)
                                  obtain ⟨go81, co81, eo81, gb81, gl81, cl81, HG81⟩ := Kd.R_form HO_131000.out (by omega)
                                  (first | cases eo81 | (injection eo81 with ea_ en_ ec_; (first | subst ea_ | (injection ea_ with ea_; subst ea_)); subst ec_; clear en_))
                                  have GB81 := Aside0.mk gb81
                                  have GG81 := Aside0.mk HG81
                                  clear gb81 gl81 HG81
                                  obtain ⟨hx81_0, hf81_0⟩ := Kd.R_celln 0 HO_131000.out (x15_2 : Int) p81 q81
                                  replace p81 := eq_true p81
                                  replace q81 := eq_true q81
                                  have HP83 := Kd.R_putn HO_131000.out (x15_2 : Int) (wrap64 ((rd ((rd_T128 l2 a3_1).f0) x15_2) + (rd ((rd_T128 l2 a3_2).f0) x15_2)))
                                  rw [← Ny143.out] at HP83
                                  have HQ83 := Aside0.mk HP83
                                  clear HP83
                                  refine start_ (n := 24) (S := fun w' => w'.cell? ⟨gb130, 0, none⟩ = some (.slice (some ⟨go81, 0, none⟩) x131000_2.length co81) ∧ w'.cell? ⟨gb130, 1, none⟩ = some (.int .i64 0) ∧ w'.cell? ⟨gb125, 0, none⟩ = some (.int .i64 a3_0) ∧ w'.cell? ⟨gb125, 1, none⟩ = some (.int .i64 a3_1) ∧ w'.cell? ⟨gb125, 2, none⟩ = some (.int .i64 a3_2) ∧ w'.cell? (ad139.add ((a3_1).toNat * 2)) = some (.slice (some ad140) ((rd_T128 l2 a3_1).f0).length c139_0) ∧ w'.cell? ⟨(ad139.add ((a3_1).toNat * 2)).block, (ad139.add ((a3_1).toNat * 2)).off + 1, none⟩ = some (.int .i64 ((rd_T128 l2 a3_1).f1)) ∧ w'.cell? (ad140.add (x15_2).toNat) = some (.int .i64 (rd ((rd_T128 l2 a3_1).f0) x15_2)) ∧ w'.cell? (ad139.add ((a3_2).toNat * 2)) = some (.slice (some ad142) ((rd_T128 l2 a3_2).f0).length c141_0) ∧ w'.cell? ⟨(ad139.add ((a3_2).toNat * 2)).block, (ad139.add ((a3_2).toNat * 2)).off + 1, none⟩ = some (.int .i64 ((rd_T128 l2 a3_2).f1)) ∧ w'.cell? (ad142.add (x15_2).toNat) = some (.int .i64 (rd ((rd_T128 l2 a3_2).f0) x15_2))) (ds := [23]) #[ff,ff,ff,ff,ff,ff,ff,ff,ff,ff,ff,ff,ff,ff,ff,ff,ff,ff,ff,ff,ff,ff,ff,ff] (by kernel_rfl) rfl rfl ⟨(blk_cell BK130.out 0).trans rfl, (blk_cell BK130.out 1).trans rfl, (blk_cell BK125.out 0).trans rfl, (blk_cell BK125.out 1).trans rfl, (blk_cell BK125.out 2).trans rfl, ((HB.out.cell (World.block_lt_of_cell? w _ hw139_0)).trans hw139_0), ((HB.out.cell (World.block_lt_of_cell? w _ hw139_1)).trans hw139_1), ((HB.out.cell (World.block_lt_of_cell? w _ hw140_0)).trans hw140_0), ((HB.out.cell (World.block_lt_of_cell? w _ hw141_0)).trans hw141_0), ((HB.out.cell (World.block_lt_of_cell? w _ hw141_1)).trans hw141_1), ((HB.out.cell (World.block_lt_of_cell? w _ hw142_0)).trans hw142_0)⟩ (fun hHeld => ?_); refine with_tabW cosignerref12_step.tab20 cosignerref12_step.bits20 (fun HT_ HW_ => ?_)
                                  generalize wr.drew = w82 at HO_131000 BK125 BK126 BK130 HB GG81 HQ83 HR139_0 HR141_0 hf81_0 hx139_0 hx139_1 hx140_0 hx141_0 hx141_1 hx142_0 hx81_0 hHeld ⊢
                                  refine pure_ (i := 0) (N := some 98) (v := ?_) (a' := ?_) #[tt,ff,ff,ff,ff,ff,ff,ff,ff,ff,ff,ff,ff,ff,ff,ff,ff,ff,ff,ff,ff,ff,ff,ff] rfl rfl (any_of HT_.out (by kernel_rfl)) (fun _ _ _ h => h) (Or.inl ⟨by rfl, ?_⟩) ?_ ?_
                                  rotate_left
                                  · intro w'
                                    go_simp
                                    with_reducible rfl
                                  rotate_left
                                  · simp only [Act.put, List.setIfInBounds_toArray, List.set_cons_zero, List.set_cons_succ, i64_w, i32_w]
                                    rfl
                                  refine pure_ (i := 2) (N := some 100) (v := ?_) (a' := ?_) #[tt,ff,tt,ff,ff,ff,ff,ff,ff,ff,ff,ff,ff,ff,ff,ff,ff,ff,ff,ff,ff,ff,ff,ff] rfl rfl (any_of HT_.out (by kernel_rfl)) (fun _ _ _ h => h) (Or.inl ⟨by rfl, ?_⟩) ?_ ?_
                                  rotate_left
                                  · intro w'
                                    go_simp
                                    with_reducible rfl
                                  rotate_left
                                  · simp only [Act.put, List.setIfInBounds_toArray, List.set_cons_zero, List.set_cons_succ, i64_w, i32_w]
                                    rfl
                                  refine pure_ (i := 3) (N := some 101) (v := ?_) (a' := ?_) #[tt,ff,tt,tt,ff,ff,ff,ff,ff,ff,ff,ff,ff,ff,ff,ff,ff,ff,ff,ff,ff,ff,ff,ff] rfl rfl (any_of HT_.out (by kernel_rfl)) (fun _ _ _ h => h) (Or.inl ⟨by rfl, ?_⟩) ?_ ?_
                                  rotate_left
                                  · intro w'
                                    go_simp
                                    with_reducible rfl
                                  rotate_left
                                  · simp only [Act.put, List.setIfInBounds_toArray, List.set_cons_zero, List.set_cons_succ, i64_w, i32_w]
                                    rfl
                                  refine pure_ (i := 4) (N := some 102) (v := ?_) (a' := ?_) #[tt,ff,tt,tt,tt,ff,ff,ff,ff,ff,ff,ff,ff,ff,ff,ff,ff,ff,ff,ff,ff,ff,ff,ff] rfl rfl (any_of HT_.out (by kernel_rfl)) (fun _ _ _ h => h) (Or.inl ⟨by rfl, ?_⟩) ?_ ?_
                                  rotate_left
                                  · intro w'
                                    go_simp
                                    with_reducible rfl
                                  rotate_left
                                  · simp only [Act.put, List.setIfInBounds_toArray, List.set_cons_zero, List.set_cons_succ, i64_w, i32_w]
                                    rfl
                                  refine pure_ (i := 9) (N := some 107) (v := ?_) (a' := ?_) #[tt,ff,tt,tt,tt,ff,ff,ff,ff,tt,ff,ff,ff,ff,ff,ff,ff,ff,ff,ff,ff,ff,ff,ff] rfl rfl (any_of HT_.out (by kernel_rfl)) (fun _ _ _ h => h) (Or.inl ⟨by rfl, ?_⟩) ?_ ?_
                                  rotate_left
                                  · intro w'
                                    go_simp
                                    with_reducible rfl
                                  rotate_left
                                  · simp only [Act.put, List.setIfInBounds_toArray, List.set_cons_zero, List.set_cons_succ, i64_w, i32_w]
                                    rfl
                                  refine pure_ (i := 12) (N := some 110) (v := ?_) (a' := ?_) #[tt,ff,tt,tt,tt,ff,ff,ff,ff,tt,ff,ff,tt,ff,ff,ff,ff,ff,ff,ff,ff,ff,ff,ff] rfl rfl (any_of HT_.out (by kernel_rfl)) (fun _ _ _ h => h) (Or.inl ⟨by rfl, ?_⟩) ?_ ?_
                                  rotate_left
                                  · intro w'
                                    go_simp
                                    with_reducible rfl
                                  rotate_left
                                  · simp only [Act.put, List.setIfInBounds_toArray, List.set_cons_zero, List.set_cons_succ, i64_w, i32_w]
                                    rfl
                                  refine pure_ (i := 13) (N := some 111) (v := ?_) (a' := ?_) #[tt,ff,tt,tt,tt,ff,ff,ff,ff,tt,ff,ff,tt,tt,ff,ff,ff,ff,ff,ff,ff,ff,ff,ff] rfl rfl (any_of HT_.out (by kernel_rfl)) (fun _ _ _ h => h) (Or.inl ⟨by rfl, ?_⟩) ?_ ?_
                                  rotate_left
                                  · intro w'
                                    go_simp
                                    with_reducible rfl
                                  rotate_left
                                  · simp only [Act.put, List.setIfInBounds_toArray, List.set_cons_zero, List.set_cons_succ, i64_w, i32_w]
                                    rfl
                                  refine pure_ (i := 18) (N := some 116) (v := ?_) (a' := ?_) #[tt,ff,tt,tt,tt,ff,ff,ff,ff,tt,ff,ff,tt,tt,ff,ff,ff,ff,tt,ff,ff,ff,ff,ff] rfl rfl (any_of HT_.out (by kernel_rfl)) (fun _ _ _ h => h) (Or.inl ⟨by rfl, ?_⟩) ?_ ?_
                                  rotate_left
                                  · intro w'
                                    go_simp
                                    with_reducible rfl
                                  rotate_left
                                  · simp only [Act.put, List.setIfInBounds_toArray, List.set_cons_zero, List.set_cons_succ, i64_w, i32_w]
                                    rfl
                                  refine take_ (i := 1) (N := some 99) (v := ?_) (a' := ?_) #[tt,tt,tt,tt,tt,ff,ff,ff,ff,tt,ff,ff,tt,tt,ff,ff,ff,ff,tt,ff,ff,ff,ff,ff] rfl rfl (take_ofW HT_.out HW_.out (by kernel_rfl)) (fun _ _ _ h => h) (Or.inl ⟨by rfl, ?_⟩) hHeld ?_ ?_
                                  rotate_left
                                  · rintro w' ⟨s0, s1, s2, s3, s4, s5, s6, s7, s8, s9, s10⟩
                                    go_simp
                                    with_reducible rfl
                                  rotate_left
                                  · simp only [Act.put, List.setIfInBounds_toArray, List.set_cons_zero, List.set_cons_succ, i64_w, i32_w]
                                    rfl
                                  refine take_ (i := 5) (N := some 103) (v := ?_) (a' := ?_) #[tt,tt,tt,tt,tt,tt,ff,ff,ff,tt,ff,ff,tt,tt,ff,ff,ff,ff,tt,ff,ff,ff,ff,ff] rfl rfl (take_ofW HT_.out HW_.out (by kernel_rfl)) (fun _ _ _ h => h) (Or.inl ⟨by rfl, ?_⟩) hHeld ?_ ?_
                                  rotate_left
                                  · rintro w' ⟨s0, s1, s2, s3, s4, s5, s6, s7, s8, s9, s10⟩
                                    go_simp
                                    with_reducible rfl
                                  rotate_left
                                  · simp only [Act.put, List.setIfInBounds_toArray, List.set_cons_zero, List.set_cons_succ, i64_w, i32_w]
                                    rfl
                                  refine pure_ (i := 6) (N := some 104) (v := ?_) (a' := ?_) #[tt,tt,tt,tt,tt,tt,tt,ff,ff,tt,ff,ff,tt,tt,ff,ff,ff,ff,tt,ff,ff,ff,ff,ff] rfl rfl (any_of HT_.out (by kernel_rfl)) (fun _ _ _ h => h) (Or.inl ⟨by rfl, ?_⟩) ?_ ?_
                                  rotate_left
                                  · intro w'
                                    go_simp
                                    with_reducible rfl
                                  rotate_left
                                  · simp only [Act.put, List.setIfInBounds_toArray, List.set_cons_zero, List.set_cons_succ, i64_w, i32_w]
                                    rfl
                                  refine pure_ (i := 7) (N := some 105) (v := ?_) (a' := ?_) #[tt,tt,tt,tt,tt,tt,tt,tt,ff,tt,ff,ff,tt,tt,ff,ff,ff,ff,tt,ff,ff,ff,ff,ff] rfl rfl (any_of HT_.out (by kernel_rfl)) (fun _ _ _ h => h) (Or.inl ⟨by rfl, ?_⟩) ?_ ?_
                                  rotate_left
                                  · intro w'
                                    go_simp
                                    with_reducible rfl
                                  rotate_left
                                  · simp only [Act.put, List.setIfInBounds_toArray, List.set_cons_zero, List.set_cons_succ, i64_w, i32_w]
                                    rfl
                                  refine take_ (i := 8) (N := some 106) (v := ?_) (a' := ?_) #[tt,tt,tt,tt,tt,tt,tt,tt,tt,tt,ff,ff,tt,tt,ff,ff,ff,ff,tt,ff,ff,ff,ff,ff] rfl rfl (take_ofW HT_.out HW_.out (by kernel_rfl)) (fun _ _ _ h => h) (Or.inl ⟨by rfl, ?_⟩) hHeld ?_ ?_
                                  rotate_left
                                  · rintro w' ⟨s0, s1, s2, s3, s4, s5, s6, s7, s8, s9, s10⟩
                                    go_simp
                                    with_reducible rfl
                                  rotate_left
                                  · simp only [Act.put, List.setIfInBounds_toArray, List.set_cons_zero, List.set_cons_succ, i64_w, i32_w]
                                    rfl
                                  refine pure_ (i := 10) (N := some 108) (v := ?_) (a' := ?_) #[tt,tt,tt,tt,tt,tt,tt,tt,tt,tt,tt,ff,tt,tt,ff,ff,ff,ff,tt,ff,ff,ff,ff,ff] rfl rfl (any_of HT_.out (by kernel_rfl)) (fun _ _ _ h => h) (Or.inl ⟨by rfl, ?_⟩) ?_ ?_
                                  rotate_left
                                  · intro w'
                                    go_simp
                                    with_reducible rfl
                                  rotate_left
                                  · simp only [Act.put, List.setIfInBounds_toArray, List.set_cons_zero, List.set_cons_succ, i64_w, i32_w]
                                    rfl
                                  refine take_ (i := 11) (N := some 109) (v := ?_) (a' := ?_) #[tt,tt,tt,tt,tt,tt,tt,tt,tt,tt,tt,tt,tt,tt,ff,ff,ff,ff,tt,ff,ff,ff,ff,ff] rfl rfl (take_ofW HT_.out HW_.out (by kernel_rfl)) (fun _ _ _ h => h) (Or.inl ⟨by rfl, ?_⟩) hHeld ?_ ?_
                                  rotate_left
                                  · rintro w' ⟨s0, s1, s2, s3, s4, s5, s6, s7, s8, s9, s10⟩
                                    go_simp
                                    with_reducible rfl
                                  rotate_left
                                  · simp only [Act.put, List.setIfInBounds_toArray, List.set_cons_zero, List.set_cons_succ, i64_w, i32_w]
                                    rfl
                                  refine take_ (i := 14) (N := some 112) (v := ?_) (a' := ?_) #[tt,tt,tt,tt,tt,tt,tt,tt,tt,tt,tt,tt,tt,tt,tt,ff,ff,ff,tt,ff,ff,ff,ff,ff] rfl rfl (take_ofW HT_.out HW_.out (by kernel_rfl)) (fun _ _ _ h => h) (Or.inl ⟨by rfl, ?_⟩) hHeld ?_ ?_
                                  rotate_left
                                  · rintro w' ⟨s0, s1, s2, s3, s4, s5, s6, s7, s8, s9, s10⟩
                                    go_simp
                                    with_reducible rfl
                                  rotate_left
                                  · simp only [Act.put, List.setIfInBounds_toArray, List.set_cons_zero, List.set_cons_succ, i64_w, i32_w]
                                    rfl
                                  refine pure_ (i := 15) (N := some 113) (v := ?_) (a' := ?_) #[tt,tt,tt,tt,tt,tt,tt,tt,tt,tt,tt,tt,tt,tt,tt,tt,ff,ff,tt,ff,ff,ff,ff,ff] rfl rfl (any_of HT_.out (by kernel_rfl)) (fun _ _ _ h => h) (Or.inl ⟨by rfl, ?_⟩) ?_ ?_
                                  rotate_left
                                  · intro w'
                                    go_simp
                                    with_reducible rfl
                                  rotate_left
                                  · simp only [Act.put, List.setIfInBounds_toArray, List.set_cons_zero, List.set_cons_succ, i64_w, i32_w]
                                    rfl
                                  refine pure_ (i := 16) (N := some 114) (v := ?_) (a' := ?_) #[tt,tt,tt,tt,tt,tt,tt,tt,tt,tt,tt,tt,tt,tt,tt,tt,tt,ff,tt,ff,ff,ff,ff,ff] rfl rfl (any_of HT_.out (by kernel_rfl)) (fun _ _ _ h => h) (Or.inl ⟨by rfl, ?_⟩) ?_ ?_
                                  rotate_left
                                  · intro w'
                                    go_simp
                                    with_reducible rfl
                                  rotate_left
                                  · simp only [Act.put, List.setIfInBounds_toArray, List.set_cons_zero, List.set_cons_succ, i64_w, i32_w]
                                    rfl
                                  refine take_ (i := 17) (N := some 115) (v := ?_) (a' := ?_) #[tt,tt,tt,tt,tt,tt,tt,tt,tt,tt,tt,tt,tt,tt,tt,tt,tt,tt,tt,ff,ff,ff,ff,ff] rfl rfl (take_ofW HT_.out HW_.out (by kernel_rfl)) (fun _ _ _ h => h) (Or.inl ⟨by rfl, ?_⟩) hHeld ?_ ?_
                                  rotate_left
                                  · rintro w' ⟨s0, s1, s2, s3, s4, s5, s6, s7, s8, s9, s10⟩
                                    go_simp
                                    with_reducible rfl
                                  rotate_left
                                  · simp only [Act.put, List.setIfInBounds_toArray, List.set_cons_zero, List.set_cons_succ, i64_w, i32_w]
                                    rfl
                                  refine pure_ (i := 19) (N := some 117) (v := ?_) (a' := ?_) #[tt,tt,tt,tt,tt,tt,tt,tt,tt,tt,tt,tt,tt,tt,tt,tt,tt,tt,tt,tt,ff,ff,ff,ff] rfl rfl (any_of HT_.out (by kernel_rfl)) (fun _ _ _ h => h) (Or.inl ⟨by rfl, ?_⟩) ?_ ?_
                                  rotate_left
                                  · intro w'
                                    go_simp
                                    with_reducible rfl
                                  rotate_left
                                  · simp only [Act.put, List.setIfInBounds_toArray, List.set_cons_zero, List.set_cons_succ, i64_w, i32_w]
                                    rfl
                                  refine take_ (i := 20) (N := some 118) (v := ?_) (a' := ?_) #[tt,tt,tt,tt,tt,tt,tt,tt,tt,tt,tt,tt,tt,tt,tt,tt,tt,tt,tt,tt,tt,ff,ff,ff] rfl rfl (take_ofW HT_.out HW_.out (by kernel_rfl)) (fun _ _ _ h => h) (Or.inl ⟨by rfl, ?_⟩) hHeld ?_ ?_
                                  rotate_left
                                  · rintro w' ⟨s0, s1, s2, s3, s4, s5, s6, s7, s8, s9, s10⟩
                                    go_simp
                                    with_reducible rfl
                                  rotate_left
                                  · simp only [Act.put, List.setIfInBounds_toArray, List.set_cons_zero, List.set_cons_succ, i64_w, i32_w]
                                    rfl
                                  refine pure_ (i := 21) (N := some 119) (v := ?_) (a' := ?_) #[tt,tt,tt,tt,tt,tt,tt,tt,tt,tt,tt,tt,tt,tt,tt,tt,tt,tt,tt,tt,tt,tt,ff,ff] rfl rfl (any_of HT_.out (by kernel_rfl)) (fun _ _ _ h => h) (Or.inl ⟨by rfl, ?_⟩) ?_ ?_
                                  rotate_left
                                  · intro w'
                                    go_simp
                                    with_reducible rfl
                                  rotate_left
                                  · simp only [Act.put, List.setIfInBounds_toArray, List.set_cons_zero, List.set_cons_succ, i64_w, i32_w]
                                    rfl
                                  refine pure_ (i := 22) (N := some 120) (v := ?_) (a' := ?_) #[tt,tt,tt,tt,tt,tt,tt,tt,tt,tt,tt,tt,tt,tt,tt,tt,tt,tt,tt,tt,tt,tt,tt,ff] rfl rfl (any_of HT_.out (by kernel_rfl)) (fun _ _ _ h => h) (Or.inl ⟨by rfl, ?_⟩) ?_ ?_
                                  rotate_left
                                  · intro w'
                                    go_simp
                                    with_reducible rfl
                                  rotate_left
                                  · simp only [Act.put, List.setIfInBounds_toArray, List.set_cons_zero, List.set_cons_succ, i64_w, i32_w]
                                    rfl
                                  refine last_ (i := 23) (N := none) #[tt,tt,tt,tt,tt,tt,tt,tt,tt,tt,tt,tt,tt,tt,tt,tt,tt,tt,tt,tt,tt,tt,tt,tt] rfl rfl (one_of HT_.out (by kernel_rfl)) (by decide) (fun K hK => ?_)
                                  refine skip_ (w1 := ?_) (by rfl) rfl ?_ ?_
                                  rotate_left
                                  · go_simp
                                    rfl
                                  refine hK.out _ _ ?_
                                  clear hK K
                                  refine done_ (done_of HT_.out (by kernel_rfl)) ?_
                                  try go_wp2
                                  go_roundg k2
                                  case measure => have := HJ62.out; have := HK2.out; omega
                                  case rel => exact ⟨(wrap64 (x15_2 + 1)), (y143), (.slice (some ⟨go81, 0, none⟩) x131000_2.length co81), (by first | rfl | (simp; done) | (simp [*]; done)), H', ⟨by have := HJ62.out; have := HK2.out; omega⟩, ⟨by (with_reducible repeat (first | apply Kd.R_alloc | apply Kd.R_drewN | apply Kd.R_drew)); exact HQ83.out⟩, ⟨by (with_reducible repeat (first | refine blk_drewN ?_ _ | refine blk_drew ?_ | refine blk_alloc ?_ _)); refine blk_far ?_ (by have h_ := Kd.R_ne HO_131000.out BK125.out (by decide); intro e_; exact h_ (by rw [e_]; rfl)) _; (with_reducible repeat (first | refine blk_drewN ?_ _ | refine blk_drew ?_ | refine blk_alloc ?_ _)); exact BK125.out⟩, ⟨by (with_reducible repeat (first | refine blk_drewN ?_ _ | refine blk_drew ?_ | refine blk_alloc ?_ _)); refine blk_far ?_ (by have h_ := Kd.R_ne HO_131000.out BK126.out (by decide); intro e_; exact h_ (by rw [e_]; rfl)) _; (with_reducible repeat (first | refine blk_drewN ?_ _ | refine blk_drew ?_ | refine blk_alloc ?_ _)); exact BK126.out⟩, ⟨by (with_reducible repeat (first | refine blk_drewN ?_ _ | refine blk_drew ?_ | refine blk_alloc ?_ _)); refine blk_far ?_ (by have h_ := Kd.R_ne HO_131000.out BK130.out (by decide); intro e_; exact h_ (by rw [e_]; rfl)) _; (with_reducible repeat (first | refine blk_drewN ?_ _ | refine blk_drew ?_ | refine blk_alloc ?_ _)); exact BK130.out⟩, ⟨by repeat (first | (with_reducible first | exact HB.out | apply below_alloc | apply pw_below_drewN | apply below_drew1 | refine below_set ?_ GB81.out | refine below_set ?_ GE125.out | refine below_set ?_ GE126.out | refine below_set ?_ GE130.out) | exact HB.out)⟩⟩
                                · rw [if_neg c80] at H
                                  exact absurd H (by simp)
                              · rw [if_neg c79] at H
                                exact absurd H (by simp)
                            · rw [if_neg c78] at H
                              exact absurd H (by simp)
                          · rw [if_neg c77] at H
                            exact absurd H (by simp)
                        · rw [if_neg c76] at H
                          exact absurd H (by simp)
                      · rw [if_neg c75] at H
                        exact absurd H (by simp)
                    · rw [if_neg c74] at H
                      exact absurd H (by simp)
                  · rw [if_neg c73] at H
                    exact absurd H (by simp)
                · rw [if_neg c72] at H
                  have c72b0 : decide (x15_2 < a0) = false := decide_eq_false c72
                  clear c72
                  by_cases c84 : 0 ≤ a3_1
                  · rw [if_pos c84] at H
                    have c84b0 : decide (0 ≤ a3_1) = true := decide_eq_true c84
                    clear c84
                    by_cases c85 : a3_1 < (l2.length : Int)
                    · rw [if_pos c85] at H
                      have c85b0 : decide (a3_1 < (l2.length : Int)) = true := decide_eq_true c85
                      clear c85
                      by_cases c86 : 0 ≤ a3_2
                      · rw [if_pos c86] at H
                        have c86b0 : decide (0 ≤ a3_2) = true := decide_eq_true c86
                        clear c86
                        by_cases c87 : a3_2 < (l2.length : Int)
                        · rw [if_pos c87] at H
                          have c87b0 : decide (a3_2 < (l2.length : Int)) = true := decide_eq_true c87
                          clear c87
                          have H' := Aside0.mk H
                          clear H
                          try go_wp2
                          have n0_ := Aside0.mk (Kd.R_drew HO_131000.out)
                          have n1_ := Aside0.mk (blk_drew BK125.out)
                          have n2_ := Aside0.mk (blk_drew BK126.out)
                          have n3_ := Aside0.mk (blk_drew BK130.out)
                          have n4_ := Aside0.mk (below_drew1 HB.out)
                          clear HO_131000
                          clear BK125
                          clear BK126
                          clear BK130
                          clear HB
                          have HO_131000 := n0_
                          have BK125 := n1_
                          have BK126 := n2_
                          have BK130 := n3_
                          have HB := n4_
                          clear n0_ n1_ n2_ n3_ n4_
                          have p144 : 0 ≤ (a3_1 : Int) := of_decide_eq_true (by first | (with_reducible assumption) | assumption)
                          have q144 : a3_1 < (l2.length : Int) := of_decide_eq_true (by first | (with_reducible assumption) | assumption)
                          obtain ⟨ad144, A144_0, c144_0, e144, hx144_0, hx144_1, hl144_0, hi144_0⟩ := at_T128 HR2.out a3_1 p144 q144
                          have hw144_1 := hx144_1
                          have hw144_0 := hx144_0
                          cases e144
                          replace hx144_0 := (HB.out.cell (World.block_lt_of_cell? w _ hx144_0)).trans hx144_0
                          replace hx144_1 := (HB.out.cell (World.block_lt_of_cell? w _ hx144_1)).trans hx144_1
                          have HR144_0 := Aside0.mk hi144_0
                          have HC144_0 := Aside0.mk hl144_0
                          clear hi144_0 hl144_0
                          replace p144 := eq_true p144
                          replace q144 := eq_true q144
                          have p145 : 0 ≤ (a3_2 : Int) := of_decide_eq_true (by first | (with_reducible assumption) | assumption)
                          have q145 : a3_2 < (l2.length : Int) := of_decide_eq_true (by first | (with_reducible assumption) | assumption)
                          obtain ⟨ad145, A145_0, c145_0, e145, hx145_0, hx145_1, hl145_0, hi145_0⟩ := at_T128 HR2.out a3_2 p145 q145
                          have hw145_1 := hx145_1
                          have hw145_0 := hx145_0
                          obtain rfl : ad144 = ad145 := (by injection e145)
                          replace hx145_0 := (HB.out.cell (World.block_lt_of_cell? w _ hx145_0)).trans hx145_0
                          replace hx145_1 := (HB.out.cell (World.block_lt_of_cell? w _ hx145_1)).trans hx145_1
                          have HR145_0 := Aside0.mk hi145_0
                          have HC145_0 := Aside0.mk hl145_0
                          clear hi145_0 hl145_0
                          replace p145 := eq_true p145
                          replace q145 := eq_true q145
                          refine start_ (n := 15) (S := fun w' => w'.cell? ⟨gb125, 0, none⟩ = some (.int .i64 a3_0) ∧ w'.cell? ⟨gb125, 1, none⟩ = some (.int .i64 a3_1) ∧ w'.cell? ⟨gb125, 2, none⟩ = some (.int .i64 a3_2) ∧ w'.cell? (ad144.add ((a3_1).toNat * 2)) = some (.slice A144_0 ((rd_T128 l2 a3_1).f0).length c144_0) ∧ w'.cell? ⟨(ad144.add ((a3_1).toNat * 2)).block, (ad144.add ((a3_1).toNat * 2)).off + 1, none⟩ = some (.int .i64 ((rd_T128 l2 a3_1).f1)) ∧ w'.cell? (ad144.add ((a3_2).toNat * 2)) = some (.slice A145_0 ((rd_T128 l2 a3_2).f0).length c145_0) ∧ w'.cell? ⟨(ad144.add ((a3_2).toNat * 2)).block, (ad144.add ((a3_2).toNat * 2)).off + 1, none⟩ = some (.int .i64 ((rd_T128 l2 a3_2).f1))) (ds := []) #[ff,ff,ff,ff,ff,ff,ff,ff,ff,ff,ff,ff,ff,ff,ff] (by kernel_rfl) rfl rfl ⟨(blk_cell BK125.out 0).trans rfl, (blk_cell BK125.out 1).trans rfl, (blk_cell BK125.out 2).trans rfl, ((HB.out.cell (World.block_lt_of_cell? w _ hw144_0)).trans hw144_0), ((HB.out.cell (World.block_lt_of_cell? w _ hw144_1)).trans hw144_1), ((HB.out.cell (World.block_lt_of_cell? w _ hw145_0)).trans hw145_0), ((HB.out.cell (World.block_lt_of_cell? w _ hw145_1)).trans hw145_1)⟩ (fun hHeld => ?_); refine with_tabW cosignerref12_step.tab21 cosignerref12_step.bits21 (fun HT_ HW_ => ?_)
                          generalize wr.drew = w88 at HO_131000 BK125 BK126 BK130 HB HR144_0 HR145_0 hx144_0 hx144_1 hx145_0 hx145_1 hHeld ⊢
                          refine pure_ (i := 0) (N := some 121) (v := ?_) (a' := ?_) #[tt,ff,ff,ff,ff,ff,ff,ff,ff,ff,ff,ff,ff,ff,ff] rfl rfl (any_of HT_.out (by kernel_rfl)) (fun _ _ _ h => h) (Or.inl ⟨by rfl, ?_⟩) ?_ ?_
                          rotate_left
                          · intro w'
                            go_simp
                            with_reducible rfl
                          rotate_left
                          · simp only [Act.put, List.setIfInBounds_toArray, List.set_cons_zero, List.set_cons_succ, i64_w, i32_w]
                            rfl
                          refine pure_ (i := 1) (N := some 122) (v := ?_) (a' := ?_) #[tt,tt,ff,ff,ff,ff,ff,ff,ff,ff,ff,ff,ff,ff,ff] rfl rfl (any_of HT_.out (by kernel_rfl)) (fun _ _ _ h => h) (Or.inl ⟨by rfl, ?_⟩) ?_ ?_
                          rotate_left
                          · intro w'
                            go_simp
                            with_reducible rfl
                          rotate_left
                          · simp only [Act.put, List.setIfInBounds_toArray, List.set_cons_zero, List.set_cons_succ, i64_w, i32_w]
                            rfl
                          refine pure_ (i := 6) (N := some 127) (v := ?_) (a' := ?_) #[tt,tt,ff,ff,ff,ff,tt,ff,ff,ff,ff,ff,ff,ff,ff] rfl rfl (any_of HT_.out (by kernel_rfl)) (fun _ _ _ h => h) (Or.inl ⟨by rfl, ?_⟩) ?_ ?_
                          rotate_left
                          · intro w'
                            go_simp
                            with_reducible rfl
                          rotate_left
                          · simp only [Act.put, List.setIfInBounds_toArray, List.set_cons_zero, List.set_cons_succ, i64_w, i32_w]
                            rfl
                          refine pure_ (i := 7) (N := some 128) (v := ?_) (a' := ?_) #[tt,tt,ff,ff,ff,ff,tt,tt,ff,ff,ff,ff,ff,ff,ff] rfl rfl (any_of HT_.out (by kernel_rfl)) (fun _ _ _ h => h) (Or.inl ⟨by rfl, ?_⟩) ?_ ?_
                          rotate_left
                          · intro w'
                            go_simp
                            with_reducible rfl
                          rotate_left
                          · simp only [Act.put, List.setIfInBounds_toArray, List.set_cons_zero, List.set_cons_succ, i64_w, i32_w]
                            rfl
                          refine take_ (i := 2) (N := some 123) (v := ?_) (a' := ?_) #[tt,tt,tt,ff,ff,ff,tt,tt,ff,ff,ff,ff,ff,ff,ff] rfl rfl (take_ofW HT_.out HW_.out (by kernel_rfl)) (fun _ _ _ h => h) (Or.inl ⟨by rfl, ?_⟩) hHeld ?_ ?_
                          rotate_left
                          · rintro w' ⟨s0, s1, s2, s3, s4, s5, s6⟩
                            go_simp
                            with_reducible rfl
                          rotate_left
                          · simp only [Act.put, List.setIfInBounds_toArray, List.set_cons_zero, List.set_cons_succ, i64_w, i32_w]
                            rfl
                          refine pure_ (i := 3) (N := some 124) (v := ?_) (a' := ?_) #[tt,tt,tt,tt,ff,ff,tt,tt,ff,ff,ff,ff,ff,ff,ff] rfl rfl (any_of HT_.out (by kernel_rfl)) (fun _ _ _ h => h) (Or.inl ⟨by rfl, ?_⟩) ?_ ?_
                          rotate_left
                          · intro w'
                            go_simp
                            with_reducible rfl
                          rotate_left
                          · simp only [Act.put, List.setIfInBounds_toArray, List.set_cons_zero, List.set_cons_succ, i64_w, i32_w]
                            rfl
                          refine pure_ (i := 4) (N := some 125) (v := ?_) (a' := ?_) #[tt,tt,tt,tt,tt,ff,tt,tt,ff,ff,ff,ff,ff,ff,ff] rfl rfl (any_of HT_.out (by kernel_rfl)) (fun _ _ _ h => h) (Or.inl ⟨by rfl, ?_⟩) ?_ ?_
                          rotate_left
                          · intro w'
                            go_simp
                            with_reducible rfl
                          rotate_left
                          · simp only [Act.put, List.setIfInBounds_toArray, List.set_cons_zero, List.set_cons_succ, i64_w, i32_w]
                            rfl
                          refine take_ (i := 5) (N := some 126) (v := ?_) (a' := ?_) #[tt,tt,tt,tt,tt,tt,tt,tt,ff,ff,ff,ff,ff,ff,ff] rfl rfl (take_ofW HT_.out HW_.out (by kernel_rfl)) (fun _ _ _ h => h) (Or.inl ⟨by rfl, ?_⟩) hHeld ?_ ?_
                          rotate_left
                          · rintro w' ⟨s0, s1, s2, s3, s4, s5, s6⟩
                            go_simp
                            with_reducible rfl
                          rotate_left
                          · simp only [Act.put, List.setIfInBounds_toArray, List.set_cons_zero, List.set_cons_succ, i64_w, i32_w]
                            rfl
                          refine take_ (i := 8) (N := some 129) (v := ?_) (a' := ?_) #[tt,tt,tt,tt,tt,tt,tt,tt,tt,ff,ff,ff,ff,ff,ff] rfl rfl (take_ofW HT_.out HW_.out (by kernel_rfl)) (fun _ _ _ h => h) (Or.inl ⟨by rfl, ?_⟩) hHeld ?_ ?_
                          rotate_left
                          · rintro w' ⟨s0, s1, s2, s3, s4, s5, s6⟩
                            go_simp
                            with_reducible rfl
                          rotate_left
                          · simp only [Act.put, List.setIfInBounds_toArray, List.set_cons_zero, List.set_cons_succ, i64_w, i32_w]
                            rfl
                          refine pure_ (i := 9) (N := some 130) (v := ?_) (a' := ?_) #[tt,tt,tt,tt,tt,tt,tt,tt,tt,tt,ff,ff,ff,ff,ff] rfl rfl (any_of HT_.out (by kernel_rfl)) (fun _ _ _ h => h) (Or.inl ⟨by rfl, ?_⟩) ?_ ?_
                          rotate_left
                          · intro w'
                            go_simp
                            with_reducible rfl
                          rotate_left
                          · simp only [Act.put, List.setIfInBounds_toArray, List.set_cons_zero, List.set_cons_succ, i64_w, i32_w]
                            rfl
                          refine pure_ (i := 10) (N := some 131) (v := ?_) (a' := ?_) #[tt,tt,tt,tt,tt,tt,tt,tt,tt,tt,tt,ff,ff,ff,ff] rfl rfl (any_of HT_.out (by kernel_rfl)) (fun _ _ _ h => h) (Or.inl ⟨by rfl, ?_⟩) ?_ ?_
                          rotate_left
                          · intro w'
                            go_simp
                            with_reducible rfl
                          rotate_left
                          · simp only [Act.put, List.setIfInBounds_toArray, List.set_cons_zero, List.set_cons_succ, i64_w, i32_w]
                            rfl
                          refine take_ (i := 11) (N := some 132) (v := ?_) (a' := ?_) #[tt,tt,tt,tt,tt,tt,tt,tt,tt,tt,tt,tt,ff,ff,ff] rfl rfl (take_ofW HT_.out HW_.out (by kernel_rfl)) (fun _ _ _ h => h) (Or.inl ⟨by rfl, ?_⟩) hHeld ?_ ?_
                          rotate_left
                          · rintro w' ⟨s0, s1, s2, s3, s4, s5, s6⟩
                            go_simp
                            with_reducible rfl
                          rotate_left
                          · simp only [Act.put, List.setIfInBounds_toArray, List.set_cons_zero, List.set_cons_succ, i64_w, i32_w]
                            rfl
                          refine pure_ (i := 12) (N := some 133) (v := ?_) (a' := ?_) #[tt,tt,tt,tt,tt,tt,tt,tt,tt,tt,tt,tt,tt,ff,ff] rfl rfl (any_of HT_.out (by kernel_rfl)) (fun _ _ _ h => h) (Or.inl ⟨by rfl, ?_⟩) ?_ ?_
                          rotate_left
                          · intro w'
                            go_simp
                            with_reducible rfl
                          rotate_left
                          · simp only [Act.put, List.setIfInBounds_toArray, List.set_cons_zero, List.set_cons_succ, i64_w, i32_w]
                            rfl
                          refine pure_ (i := 13) (N := some 134) (v := ?_) (a' := ?_) #[tt,tt,tt,tt,tt,tt,tt,tt,tt,tt,tt,tt,tt,tt,ff] rfl rfl (any_of HT_.out (by kernel_rfl)) (fun _ _ _ h => h) (Or.inl ⟨by rfl, ?_⟩) ?_ ?_
                          rotate_left
                          · intro w'
                            go_simp
                            with_reducible rfl
                          rotate_left
                          · simp only [Act.put, List.setIfInBounds_toArray, List.set_cons_zero, List.set_cons_succ, i64_w, i32_w]
                            rfl
                          refine one_ (i := 14) (N := none) #[tt,tt,tt,tt,tt,tt,tt,tt,tt,tt,tt,tt,tt,tt,tt] rfl rfl (one_of HT_.out (by kernel_rfl)) (by decide) (fun K hK => ?_)
                          have hs89 : w88.cell? ⟨gb130, 1, none⟩ = some (.int .i64 0) := (blk_cell BK130.out 1).trans rfl
                          have hfs89 := blk_frozen BK130.out 1
                          have hns89_0 := NB125_130.out
                          have hns89_1 := NB126_130.out
                          have hms89_0 := NB130_125.out
                          have hms89_1 := NB130_126.out
                          refine skip_ (w1 := ?_) (by rfl) rfl ?_ ?_
                          rotate_left
                          · go_simp
                            rfl
                          refine hK.out _ _ ⟨((cell_far (p := ⟨gb130, _, none⟩) NB125_130.out _).trans (hHeld.1)), ((cell_far (p := ⟨gb130, _, none⟩) NB125_130.out _).trans (hHeld.2.1)), ((cell_far (p := ⟨gb130, _, none⟩) NB125_130.out _).trans (hHeld.2.2.1)), ((cell_far (p := ⟨gb130, _, none⟩) (by first | exact Nat.ne_of_lt (Nat.lt_of_lt_of_le (by have := World.block_lt_of_cell? _ _ hw144_0; first | rwa [add_block] at this | exact this) GW130.out) | (rw [add_block]; exact Nat.ne_of_lt (Nat.lt_of_lt_of_le (by have := World.block_lt_of_cell? _ _ hw144_0; first | rwa [add_block] at this | exact this) GW130.out)) | (show (Addr.add _ _).block ≠ _; rw [add_block]; exact Nat.ne_of_lt (Nat.lt_of_lt_of_le (by have := World.block_lt_of_cell? _ _ hw144_0; first | rwa [add_block] at this | exact this) GW130.out)) | (dsimp only; exact Nat.ne_of_lt (Nat.lt_of_lt_of_le (by have := World.block_lt_of_cell? _ _ hw144_0; first | rwa [add_block] at this | exact this) GW130.out))) _).trans (hHeld.2.2.2.1)), ((cell_far (p := ⟨gb130, _, none⟩) (by first | exact Nat.ne_of_lt (Nat.lt_of_lt_of_le (by have := World.block_lt_of_cell? _ _ hw144_1; first | rwa [add_block] at this | exact this) GW130.out) | (rw [add_block]; exact Nat.ne_of_lt (Nat.lt_of_lt_of_le (by have := World.block_lt_of_cell? _ _ hw144_1; first | rwa [add_block] at this | exact this) GW130.out)) | (show (Addr.add _ _).block ≠ _; rw [add_block]; exact Nat.ne_of_lt (Nat.lt_of_lt_of_le (by have := World.block_lt_of_cell? _ _ hw144_1; first | rwa [add_block] at this | exact this) GW130.out)) | (dsimp only; exact Nat.ne_of_lt (Nat.lt_of_lt_of_le (by have := World.block_lt_of_cell? _ _ hw144_1; first | rwa [add_block] at this | exact this) GW130.out))) _).trans (hHeld.2.2.2.2.1)), ((cell_far (p := ⟨gb130, _, none⟩) (by first | exact Nat.ne_of_lt (Nat.lt_of_lt_of_le (by have := World.block_lt_of_cell? _ _ hw145_0; first | rwa [add_block] at this | exact this) GW130.out) | (rw [add_block]; exact Nat.ne_of_lt (Nat.lt_of_lt_of_le (by have := World.block_lt_of_cell? _ _ hw145_0; first | rwa [add_block] at this | exact this) GW130.out)) | (show (Addr.add _ _).block ≠ _; rw [add_block]; exact Nat.ne_of_lt (Nat.lt_of_lt_of_le (by have := World.block_lt_of_cell? _ _ hw145_0; first | rwa [add_block] at this | exact this) GW130.out)) | (dsimp only; exact Nat.ne_of_lt (Nat.lt_of_lt_of_le (by have := World.block_lt_of_cell? _ _ hw145_0; first | rwa [add_block] at this | exact this) GW130.out))) _).trans (hHeld.2.2.2.2.2.1)), ((cell_far (p := ⟨gb130, _, none⟩) (by first | exact Nat.ne_of_lt (Nat.lt_of_lt_of_le (by have := World.block_lt_of_cell? _ _ hw145_1; first | rwa [add_block] at this | exact this) GW130.out) | (rw [add_block]; exact Nat.ne_of_lt (Nat.lt_of_lt_of_le (by have := World.block_lt_of_cell? _ _ hw145_1; first | rwa [add_block] at this | exact this) GW130.out)) | (show (Addr.add _ _).block ≠ _; rw [add_block]; exact Nat.ne_of_lt (Nat.lt_of_lt_of_le (by have := World.block_lt_of_cell? _ _ hw145_1; first | rwa [add_block] at this | exact this) GW130.out)) | (dsimp only; exact Nat.ne_of_lt (Nat.lt_of_lt_of_le (by have := World.block_lt_of_cell? _ _ hw145_1; first | rwa [add_block] at this | exact this) GW130.out))) _).trans (hHeld.2.2.2.2.2.2))⟩ (fun hHeld => ?_)
                          clear hK K
                          refine done_ (done_of HT_.out (by kernel_rfl)) ?_
                          try go_wp2
                          go_meet
                          case rel => exact ⟨_, (0), (x131000_2), (wrap64 (((rd_T128 l2 a3_1).f1) + ((rd_T128 l2 a3_2).f1))), (u131000), H', ⟨by have := HJ62.out; have := HK2.out; first | omega | exact Nat.le_refl _⟩, ⟨by (with_reducible repeat (first | apply Kd.R_alloc | apply Kd.R_drewN | apply Kd.R_drew)); exact Kd.R_mono (Kd.R_far (p := ⟨gb130, 1, none⟩) (Kd.R_types HO_131000.out BK130.out (by decide)) (fun _ hk => hk.2) (.int .i64 (wrap64 (((rd_T128 l2 a3_1).f1) + ((rd_T128 l2 a3_2).f1))))) (fun _ hk => trivial)⟩, ⟨by (with_reducible repeat (first | refine blk_drewN ?_ _ | refine blk_drew ?_ | refine blk_alloc ?_ _)); refine blk_far ?_ NB125_130.out _; (with_reducible repeat (first | refine blk_drewN ?_ _ | refine blk_drew ?_ | refine blk_alloc ?_ _)); exact BK125.out⟩, ⟨by (with_reducible repeat (first | refine blk_drewN ?_ _ | refine blk_drew ?_ | refine blk_alloc ?_ _)); refine blk_far ?_ NB126_130.out _; (with_reducible repeat (first | refine blk_drewN ?_ _ | refine blk_drew ?_ | refine blk_alloc ?_ _)); exact BK126.out⟩, ⟨by (with_reducible repeat (first | refine blk_drewN ?_ _ | refine blk_drew ?_ | refine blk_alloc ?_ _)); refine blk_put (cs := #[u131000, .int .i64 0]) ?_ 1 _ rfl; (with_reducible repeat (first | refine blk_drewN ?_ _ | refine blk_drew ?_ | refine blk_alloc ?_ _)); exact BK130.out⟩, ⟨by repeat (first | (with_reducible first | exact HB.out | apply below_alloc | apply pw_below_drewN | apply below_drew1 | refine below_set ?_ GE125.out | refine below_set ?_ GE126.out | refine below_set ?_ GE130.out) | exact HB.out)⟩⟩
                        · rw [if_neg c87] at H
                          exact absurd H (by simp)
                      · rw [if_neg c86] at H
                        exact absurd H (by simp)
                    · rw [if_neg c85] at H
                      exact absurd H (by simp)
                  · rw [if_neg c84] at H
                    exact absurd H (by simp)
        · rw [if_neg c60] at H
          have c60b0 : (a3_0 == 2) = false := beq_eq_false_iff_ne.mpr c60
          have c60b1 : (a3_0 != 2) = true := bne_iff_ne.mpr c60
          by_cases c90 : a3_0 = 3
          · rw [if_pos c90] at H
            have c90b0 : (a3_0 == 3) = true := beq_iff_eq.mpr c90
            have c90b1 : (a3_0 != 3) = false := bne_eq_false_iff_eq.mpr c90
            clear c90
            replace H := Option.bind_eq_some_iff.mp H
            obtain ⟨t146, A910, H⟩ := H
            replace H : (if t146 = true then (cosignerref12_step.j2 k a0 l2 (a3_2 != 0) a3_0 a3_1 a3_2 y127 0) else (cosignerref12_step.j2 k a0 l2 true a3_0 a3_1 a3_2 y127 0)) = some (r1, r2, r3) := H
            have A91 := Aside0.mk A910
            clear A910
            have HC92 := Aside0.mk H
            clear H
            have hnb93 := NB125_126.out
            have hnc93 := NB126_125.out
            have hnb94 := NB125_130.out
            have hnc94 := NB130_125.out
            have hcz95_0 : w13.cell? ⟨gb125, 0, none⟩ = some (.int .i64 a3_0) := (blk_cell BK125.out 0).trans rfl
            have hcz95_1 : w13.cell? ⟨gb125, 1, none⟩ = some (.int .i64 a3_1) := (blk_cell BK125.out 1).trans rfl
            have hcz95_2 : w13.cell? ⟨gb125, 2, none⟩ = some (.int .i64 a3_2) := (blk_cell BK125.out 2).trans rfl
            have hfz95_0 := blk_frozen BK125.out 0
            have hfz95_1 := blk_frozen BK125.out 1
            have hfz95_2 := blk_frozen BK125.out 2
            go_upto_region 24 with (first | ((with_reducible refine gate_callee (f := 64) rfl ?_); refine goesL_ (some 142) rfl rfl Try.func64 (by kernel_rfl) rfl #[.int .i64 a3_1, .int .i64 0, .int .i64 (wrap64 ((l2.length : Int) - 1))] rfl (by (try simp only [List.map_toArray, List.map_cons, List.map_nil]); first | done | rfl | (simp only [List.length_drop, List.length_take]; rfl)) ?_; (with_reducible refine (cosignerref12_in.calls a3_1 0 (wrap64 ((l2.length : Int) - 1)) t146 _ A91.out).mono ?_); rintro e w' ⟨rfl, ⟨nd, rfl⟩⟩; refine ⟨_, rfl, ?_⟩))
            (try simp only [Act.put, List.setIfInBounds_toArray, List.set_cons_zero, List.set_cons_succ])
            go_cut [149] (fun v149 wc => ∃ (kq : Nat) (x149_91 : Bool), v149 = .bool x149_91 ∧ Aside0 (cosignerref12_step.j2 kq a0 l2 x149_91 a3_0 a3_1 a3_2 y127 0 = some (r1, r2, r3)) ∧ Aside0 (kq ≤ k) ∧ Aside0 (Kd.R (Kd.int .i64) 3 wc w.heap.size (fun _ => True) (.slice Ao12 y127.length co12) y127) ∧ Aside0 (wc.heap[gb125]? = some (.cells #[.int .i64 a3_0, .int .i64 a3_1, .int .i64 a3_2] 166 (0, 0))) ∧ Aside0 (wc.heap[gb126]? = some (.cells #[(.slice none 0 0), .int .i64 0] 128 (0, 0))) ∧ Aside0 (wc.heap[gb130]? = some (.cells #[(.slice Ao12 y127.length co12), .int .i64 0] 128 (0, 0))) ∧ Aside0 (Below w.heap.size w wc))
            case first =>
             have H := HC92.out
             clear HC92
             by_cases c96 : t146 = true
             · subst c96
               have H1 : (cosignerref12_step.j2 k a0 l2 (a3_2 != 0) a3_0 a3_1 a3_2 y127 0) = some (r1, r2, r3) := by rw [if_pos rfl] at H; exact H
               clear H
               have H := H1
               clear H1
               have H' := Aside0.mk H
               clear H
               have hnb97 := NB125_126.out
               have hnc97 := NB126_125.out
               have hnb98 := NB125_130.out
               have hnc98 := NB130_125.out
               have hcz99_0 : w13.cell? ⟨gb125, 0, none⟩ = some (.int .i64 a3_0) := (blk_cell BK125.out 0).trans rfl
               have hcz99_1 : w13.cell? ⟨gb125, 1, none⟩ = some (.int .i64 a3_1) := (blk_cell BK125.out 1).trans rfl
               have hcz99_2 : w13.cell? ⟨gb125, 2, none⟩ = some (.int .i64 a3_2) := (blk_cell BK125.out 2).trans rfl
               have hfz99_0 := blk_frozen BK125.out 0
               have hfz99_1 := blk_frozen BK125.out 1
               have hfz99_2 := blk_frozen BK125.out 2
               go_wp2
               go_meet
               case rel => exact ⟨_, ((a3_2 != 0)), (by first | rfl | (simp; done) | (simp [*]; done)), H', ⟨by first | omega | exact Nat.le_refl _⟩, ⟨by (with_reducible repeat (first | apply Kd.R_alloc | apply Kd.R_drewN | apply Kd.R_drew)); exact Kd.R_mono (Kd.R_far (p := ⟨gb130, 1, none⟩) (Kd.R_far (p := ⟨gb130, 0, none⟩) (Kd.R_types HO129.out BK130.out (by decide)) (fun _ hk => hk.2) (.slice Ao12 y127.length co12)) (fun _ hk => hk.2) (.int .i64 0)) (fun _ hk => trivial)⟩, ⟨by (with_reducible repeat (first | refine blk_drewN ?_ _ | refine blk_drew ?_ | refine blk_alloc ?_ _)); refine blk_far ?_ NB125_130.out _; (with_reducible repeat (first | refine blk_drewN ?_ _ | refine blk_drew ?_ | refine blk_alloc ?_ _)); refine blk_far ?_ NB125_130.out _; (with_reducible repeat (first | refine blk_drewN ?_ _ | refine blk_drew ?_ | refine blk_alloc ?_ _)); exact BK125.out⟩, ⟨by (with_reducible repeat (first | refine blk_drewN ?_ _ | refine blk_drew ?_ | refine blk_alloc ?_ _)); refine blk_far ?_ NB126_130.out _; (with_reducible repeat (first | refine blk_drewN ?_ _ | refine blk_drew ?_ | refine blk_alloc ?_ _)); refine blk_far ?_ NB126_130.out _; (with_reducible repeat (first | refine blk_drewN ?_ _ | refine blk_drew ?_ | refine blk_alloc ?_ _)); exact BK126.out⟩, ⟨by (with_reducible repeat (first | refine blk_drewN ?_ _ | refine blk_drew ?_ | refine blk_alloc ?_ _)); refine blk_put (cs := #[.slice Ao12 y127.length co12, .int .i64 0]) ?_ 1 _ rfl; (with_reducible repeat (first | refine blk_drewN ?_ _ | refine blk_drew ?_ | refine blk_alloc ?_ _)); refine blk_put (cs := #[.slice none 0 0, .int .i64 0]) ?_ 0 _ rfl; (with_reducible repeat (first | refine blk_drewN ?_ _ | refine blk_drew ?_ | refine blk_alloc ?_ _)); exact BK130.out⟩, ⟨by repeat (first | (with_reducible first | exact HB.out | apply below_alloc | apply pw_below_drewN | apply below_drew1 | refine below_set ?_ GE125.out | refine below_set ?_ GE126.out | refine below_set ?_ GE130.out) | exact HB.out)⟩⟩
             · replace c96 := Bool.eq_false_iff.mpr c96
               subst c96
               have H1 : (cosignerref12_step.j2 k a0 l2 true a3_0 a3_1 a3_2 y127 0) = some (r1, r2, r3) := by rw [if_neg (show ¬ (false = true) by decide)] at H; exact H
               clear H
               have H := H1
               clear H1
               have H' := Aside0.mk H
               clear H
               go_wp2
               go_meet
               case rel => exact ⟨_, (true), (by first | rfl | (simp; done) | (simp [*]; done)), H', ⟨by first | omega | exact Nat.le_refl _⟩, ⟨by (with_reducible repeat (first | apply Kd.R_alloc | apply Kd.R_drewN | apply Kd.R_drew)); exact Kd.R_mono (Kd.R_far (p := ⟨gb130, 1, none⟩) (Kd.R_far (p := ⟨gb130, 0, none⟩) (Kd.R_types HO129.out BK130.out (by decide)) (fun _ hk => hk.2) (.slice Ao12 y127.length co12)) (fun _ hk => hk.2) (.int .i64 0)) (fun _ hk => trivial)⟩, ⟨by (with_reducible repeat (first | refine blk_drewN ?_ _ | refine blk_drew ?_ | refine blk_alloc ?_ _)); refine blk_far ?_ NB125_130.out _; (with_reducible repeat (first | refine blk_drewN ?_ _ | refine blk_drew ?_ | refine blk_alloc ?_ _)); refine blk_far ?_ NB125_130.out _; (with_reducible repeat (first | refine blk_drewN ?_ _ | refine blk_drew ?_ | refine blk_alloc ?_ _)); exact BK125.out⟩, ⟨by (with_reducible repeat (first | refine blk_drewN ?_ _ | refine blk_drew ?_ | refine blk_alloc ?_ _)); refine blk_far ?_ NB126_130.out _; (with_reducible repeat (first | refine blk_drewN ?_ _ | refine blk_drew ?_ | refine blk_alloc ?_ _)); refine blk_far ?_ NB126_130.out _; (with_reducible repeat (first | refine blk_drewN ?_ _ | refine blk_drew ?_ | refine blk_alloc ?_ _)); exact BK126.out⟩, ⟨by (with_reducible repeat (first | refine blk_drewN ?_ _ | refine blk_drew ?_ | refine blk_alloc ?_ _)); refine blk_put (cs := #[.slice Ao12 y127.length co12, .int .i64 0]) ?_ 1 _ rfl; (with_reducible repeat (first | refine blk_drewN ?_ _ | refine blk_drew ?_ | refine blk_alloc ?_ _)); refine blk_put (cs := #[.slice none 0 0, .int .i64 0]) ?_ 0 _ rfl; (with_reducible repeat (first | refine blk_drewN ?_ _ | refine blk_drew ?_ | refine blk_alloc ?_ _)); exact BK130.out⟩, ⟨by repeat (first | (with_reducible first | exact HB.out | apply below_alloc | apply pw_below_drewN | apply below_drew1 | refine below_set ?_ GE125.out | refine below_set ?_ GE126.out | refine below_set ?_ GE130.out) | exact HB.out)⟩⟩
            case rest =>
             clear HC92
             try clear c1
             try clear p1
             try clear q1
             try clear hx1
             try clear p2
             try clear c6
             try clear p6
             try clear c7
             try clear c8
             try clear p8
             try clear q8
             try clear hx8
             try clear hf8
             try clear c9
             try clear c13
             try clear p13
             try clear q13
             try clear hx13
             try clear c14
             try clear p14
             try clear q14
             try clear hx14
             try clear c60
             try clear c60b0
             try clear c60b1
             try clear c64
             try clear p64
             try clear c72
             try clear c72b0
             try clear c73
             try clear c73b0
             try clear c74
             try clear c74b0
             try clear c75
             try clear c75b0
             try clear c76
             try clear c76b0
             try clear c77
             try clear c77b0
             try clear c78
             try clear c78b0
             try clear c79
             try clear c79b0
             try clear c80
             try clear c80b0
             try clear p81
             try clear q81
             try clear hx81
             try clear hf81
             try clear c84
             try clear c84b0
             try clear c85
             try clear c85b0
             try clear c86
             try clear c86b0
             try clear c87
             try clear c87b0
             try clear c90
             try clear c90b0
             try clear c90b1
             try clear c93
             try clear c94
             try clear c96
             try clear c97
             try clear c98
             try clear hcz95_0
             try clear hcz95_1
             try clear hcz95_2
             try clear hcz99_0
             try clear hcz99_1
             try clear hcz99_2
             try clear hfz95_0
             try clear hfz95_1
             try clear hfz95_2
             try clear hfz99_0
             try clear hfz99_1
             try clear hfz99_2
             try clear hx139_0
             try clear hx139_1
             try clear hx140_0
             try clear hx141_0
             try clear hx141_1
             try clear hx142_0
             try clear hx144_0
             try clear hx144_1
             try clear hx145_0
             try clear hx145_1
             try clear hx81_0
             try clear p139
             try clear p140
             try clear p141
             try clear p142
             try clear p144
             try clear p145
             try clear p81
             try clear q139
             try clear q140
             try clear q141
             try clear q142
             try clear q144
             try clear q145
             try clear q81
             obtain ⟨kq, x149_91, rfl, HA, HJ91, HO_131000, BK125, BK126, BK130, HB⟩ := hcut
             cases kq with
             | zero => exact absurd HA.out (by simp [cosignerref12_step.j2])
             | succ kj91 =>
              have H := HA.out
              clear HA
              simp only [cosignerref12_step.j2] at H
              by_cases c100 : x149_91 = true
              · subst c100
                have H1 : (some (([] : List Int), 0, false)) = some (r1, r2, r3) := by rw [if_pos rfl] at H; exact H
                clear H
                have H := H1
                clear H1
                simp only [Option.some.injEq, Prod.mk.injEq] at H
                obtain ⟨rfl, rfl, rfl⟩ := H
                have hnb101 := NB126_125.out
                have hnc101 := NB125_126.out
                have hnb102 := NB126_130.out
                have hnc102 := NB130_126.out
                have hcz103_0 : wc.cell? ⟨gb126, 0, none⟩ = some (.slice none 0 0) := (blk_cell BK126.out 0).trans rfl
                have hcz103_1 : wc.cell? ⟨gb126, 1, none⟩ = some (.int .i64 0) := (blk_cell BK126.out 1).trans rfl
                have hfz103_0 := blk_frozen BK126.out 0
                have hfz103_1 := blk_frozen BK126.out 1
                go_wp2
                refine bodyPost_ret (results_ct rfl _ _ gb126 128 #[.slice none 0 0, .int .i64 0] (0, 0) _ rfl (by (with_reducible repeat (first | refine blk_drewN ?_ _ | refine blk_drew ?_ | refine blk_alloc ?_ _)); refine blk_put (cs := #[.slice none 0 0, .int .i64 0]) ?_ 1 _ rfl; (with_reducible repeat (first | refine blk_drewN ?_ _ | refine blk_drew ?_ | refine blk_alloc ?_ _)); refine blk_put (cs := #[.slice none 0 0, .int .i64 0]) ?_ 0 _ rfl; (with_reducible repeat (first | refine blk_drewN ?_ _ | refine blk_drew ?_ | refine blk_alloc ?_ _)); exact BK126.out) Try.underlying128 rfl (by kernel_rfl)) rfl ?_
                exact ⟨_, by first | rfl | (simp [errW_none, errW_some] <;> rfl) | (simp [*, errW_none, errW_some] <;> rfl), by first | exact Kd.R_nil _ _ _ _ _ | exact Kd.N_nil _ _ _ _ _ | exact Kd.V_nil _ _ _ _ _ | exact Kd.Q_nil _ _ _ _ _ | exact Kd.S_nil _ _ _ _ _, by repeat (first | (with_reducible first | exact HB.out | apply below_alloc | apply pw_below_drewN | apply below_drew1 | refine below_set ?_ GE125.out | refine below_set ?_ GE126.out | refine below_set ?_ GE130.out) | exact HB.out)⟩
              · replace c100 := Bool.eq_false_iff.mpr c100
                subst c100
                have H1 : (cosignerref12_step.l1 kj91 a0 l2 0 a3_0 a3_1 a3_2 y127 0) = some (r1, r2, r3) := by rw [if_neg (show ¬ (false = true) by decide)] at H; exact H
                clear H
                have H := H1
                clear H1
                have H' := Aside0.mk H
                clear H
                go_wp2
                go_loopg [17] kj91 (fun kq v17 w' => ∃ (x17_2 : Int) (x127001_2 : Int) (x131000_2 : List Int) (u131000 : Value), v17 = .int .i64 x17_2 ∧ Aside0 (cosignerref12_step.l1 kq a0 l2 x17_2 a3_0 a3_1 a3_2 x131000_2 0 = some (r1, r2, r3)) ∧ Aside0 (kq ≤ kj91) ∧ Aside0 (Kd.R (Kd.int .i64) 3 w' w.heap.size (fun _ => True) u131000 x131000_2) ∧ Aside0 (w'.heap[gb125]? = some (.cells #[.int .i64 a3_0, .int .i64 a3_1, .int .i64 a3_2] 166 (0, 0))) ∧ Aside0 (w'.heap[gb126]? = some (.cells #[(.slice none 0 0), .int .i64 x127001_2] 128 (0, 0))) ∧ Aside0 (w'.heap[gb130]? = some (.cells #[u131000, .int .i64 0] 128 (0, 0))) ∧ Aside0 (Below w.heap.size w w'))
                case atStart => exact ⟨(0), (0), (y127), (.slice Ao12 y127.length co12), (by first | rfl | (simp; done) | (simp [*]; done)), H', ⟨Nat.le_refl _⟩, ⟨by (with_reducible repeat (first | apply Kd.R_alloc | apply Kd.R_drewN | apply Kd.R_drew)); exact HO_131000.out⟩, ⟨by (with_reducible repeat (first | refine blk_drewN ?_ _ | refine blk_drew ?_ | refine blk_alloc ?_ _)); exact BK125.out⟩, ⟨by (with_reducible repeat (first | refine blk_drewN ?_ _ | refine blk_drew ?_ | refine blk_alloc ?_ _)); exact BK126.out⟩, ⟨by (with_reducible repeat (first | refine blk_drewN ?_ _ | refine blk_drew ?_ | refine blk_alloc ?_ _)); exact BK130.out⟩, ⟨by repeat (first | (with_reducible first | exact HB.out | apply below_alloc | apply pw_below_drewN | apply below_drew1 | refine below_set ?_ GE125.out | refine below_set ?_ GE126.out | refine below_set ?_ GE130.out) | exact HB.out)⟩⟩
                case round =>
                 clear H'
                 try clear c1
                 try clear p1
                 try clear q1
                 try clear hx1
                 try clear p2
                 try clear c6
                 try clear p6
                 try clear c7
                 try clear c8
                 try clear p8
                 try clear q8
                 try clear hx8
                 try clear hf8
                 try clear c9
                 try clear c10
                 try clear c13
                 try clear p13
                 try clear q13
                 try clear hx13
                 try clear c14
                 try clear p14
                 try clear q14
                 try clear hx14
                 try clear c60
                 try clear c60b0
                 try clear c60b1
                 try clear c64
                 try clear p64
                 try clear c72
                 try clear c72b0
                 try clear c73
                 try clear c73b0
                 try clear c74
                 try clear c74b0
                 try clear c75
                 try clear c75b0
                 try clear c76
                 try clear c76b0
                 try clear c77
                 try clear c77b0
                 try clear c78
                 try clear c78b0
                 try clear c79
                 try clear c79b0
                 try clear c80
                 try clear c80b0
                 try clear p81
                 try clear q81
                 try clear hx81
                 try clear hf81
                 try clear c84
                 try clear c84b0
                 try clear c85
                 try clear c85b0
                 try clear c86
                 try clear c86b0
                 try clear c87
                 try clear c87b0
                 try clear c90
                 try clear c90b0
                 try clear c90b1
                 try clear c93
                 try clear c94
                 try clear c96
                 try clear c97
                 try clear c98
                 try clear c100
                 try clear c101
                 try clear c102
                 try clear hcz103_0
                 try clear hcz103_1
                 try clear hcz95_0
                 try clear hcz95_1
                 try clear hcz95_2
                 try clear hcz99_0
                 try clear hcz99_1
                 try clear hcz99_2
                 try clear hfz103_0
                 try clear hfz103_1
                 try clear hfz95_0
                 try clear hfz95_1
                 try clear hfz95_2
                 try clear hfz99_0
                 try clear hfz99_1
                 try clear hfz99_2
                 try clear hx139_0
                 try clear hx139_1
                 try clear hx140_0
                 try clear hx141_0
                 try clear hx141_1
                 try clear hx142_0
                 try clear hx144_0
                 try clear hx144_1
                 try clear hx145_0
                 try clear hx145_1
                 try clear hx81_0
                 try clear p1
                 try clear p13
                 try clear p139
                 try clear p14
                 try clear p140
                 try clear p141
                 try clear p142
                 try clear p144
                 try clear p145
                 try clear p2
                 try clear p6
                 try clear p64
                 try clear p8
                 try clear p81
                 try clear q1
                 try clear q13
                 try clear q139
                 try clear q14
                 try clear q140
                 try clear q141
                 try clear q142
                 try clear q144
                 try clear q145
                 try clear q8
                 try clear q81
                 obtain ⟨x17_2, x127001_2, x131000_2, u131000, rfl, HA, HK2, HO_131000, BK125, BK126, BK130, HB⟩ := hrel
                 cases gk with
                 | zero => exact absurd HA.out (by simp [cosignerref12_step.l1])
                 | succ k2 =>
                  have H := HA.out
                  clear HA
                  simp only [cosignerref12_step.l1] at H
                  by_cases c104 : x17_2 < a0
                  · rw [if_pos c104] at H
                    have c104b0 : decide (x17_2 < a0) = true := decide_eq_true c104
                    clear c104
                    by_cases c105 : 0 ≤ a3_1
                    · rw [if_pos c105] at H
                      have c105b0 : decide (0 ≤ a3_1) = true := decide_eq_true c105
                      clear c105
                      by_cases c106 : a3_1 < (l2.length : Int)
                      · rw [if_pos c106] at H
                        have c106b0 : decide (a3_1 < (l2.length : Int)) = true := decide_eq_true c106
                        clear c106
                        by_cases c107 : 0 ≤ x17_2
                        · rw [if_pos c107] at H
                          have c107b0 : decide (0 ≤ x17_2) = true := decide_eq_true c107
                          clear c107
                          by_cases c108 : x17_2 < (((rd_T128 l2 a3_1).f0).length : Int)
                          · rw [if_pos c108] at H
                            have c108b0 : decide (x17_2 < (((rd_T128 l2 a3_1).f0).length : Int)) = true := decide_eq_true c108
                            clear c108
                            by_cases c109 : (Int.tmod (rd ((rd_T128 l2 a3_1).f0) x17_2) 2) = 0
                            · rw [if_pos c109] at H
                              have c109b0 : ((Int.tmod (rd ((rd_T128 l2 a3_1).f0) x17_2) 2) == 0) = true := beq_iff_eq.mpr c109
                              have c109b1 : ((Int.tmod (rd ((rd_T128 l2 a3_1).f0) x17_2) 2) != 0) = false := bne_eq_false_iff_eq.mpr c109
                              clear c109
                              by_cases c110 : x17_2 < (x131000_2.length : Int)
                              · rw [if_pos c110] at H
                                have c110b0 : decide (x17_2 < (x131000_2.length : Int)) = true := decide_eq_true c110
                                clear c110
                                obtain ⟨y151, hy151⟩ : ∃ y_ : List Int, y_ = (x131000_2.set (x17_2 : Int).toNat (wrap64 (Int.tdiv (rd ((rd_T128 l2 a3_1).f0) x17_2) 2))) := ⟨_, rfl⟩
                                replace H : (cosignerref12_step.l1 k2 a0 l2 (wrap64 (x17_2 + 1)) a3_0 a3_1 a3_2 y151 0) = some (r1, r2, r3) := by first | (rw [hy151]; with_reducible exact H) | (have H2_ := (Option.bind_some _ _).symm.trans H; rw [hy151]; with_reducible exact H2_) | (have H2_ := (Option.bind_some _ _).symm.trans H; with_reducible exact H2_) | with_reducible exact H | (rw [hy151]; exact H) | exact H
                                have Ny151 := Aside0.mk hy151
                                clear hy151
                                have H' := Aside0.mk H
                                clear H
                                have hnb112 := NB125_126.out
                                have hnc112 := NB126_125.out
                                have hnb113 := NB125_130.out
                                have hnc113 := NB130_125.out
                                have hcz114_0 : wr.cell? ⟨gb125, 0, none⟩ = some (.int .i64 a3_0) := (blk_cell BK125.out 0).trans rfl
                                have hcz114_1 : wr.cell? ⟨gb125, 1, none⟩ = some (.int .i64 a3_1) := (blk_cell BK125.out 1).trans rfl
                                have hcz114_2 : wr.cell? ⟨gb125, 2, none⟩ = some (.int .i64 a3_2) := (blk_cell BK125.out 2).trans rfl
                                have hfz114_0 := blk_frozen BK125.out 0
                                have hfz114_1 := blk_frozen BK125.out 1
                                have hfz114_2 := blk_frozen BK125.out 2
                                have p147 : 0 ≤ (a3_1 : Int) := of_decide_eq_true (by first | (with_reducible assumption) | assumption)
                                have q147 : a3_1 < (l2.length : Int) := of_decide_eq_true (by first | (with_reducible assumption) | assumption)
                                obtain ⟨ad147, A147_0, c147_0, e147, hx147_0, hx147_1, hl147_0, hi147_0⟩ := at_T128 HR2.out a3_1 p147 q147
                                cases e147
                                replace hx147_0 := (HB.out.cell (World.block_lt_of_cell? w _ hx147_0)).trans hx147_0
                                replace hx147_1 := (HB.out.cell (World.block_lt_of_cell? w _ hx147_1)).trans hx147_1
                                have HR147_0 := Aside0.mk hi147_0
                                have HC147_0 := Aside0.mk hl147_0
                                clear hi147_0 hl147_0
                                replace p147 := eq_true p147
                                replace q147 := eq_true q147
                                have p148 : 0 ≤ (x17_2 : Int) := of_decide_eq_true (by first | (with_reducible assumption) | assumption)
                                have q148 : x17_2 < (((rd_T128 l2 a3_1).f0).length : Int) := of_decide_eq_true (by first | (with_reducible assumption) | assumption)
                                obtain ⟨ad148, e148, hx148_0⟩ := Kd.at_int HR147_0.out x17_2 p148 q148
                                cases e148
                                replace hx148_0 := (HB.out.cell (World.block_lt_of_cell? w _ hx148_0)).trans hx148_0
                                replace p148 := eq_true p148
                                replace q148 := eq_true q148
                                try go_wp2
                                have n0_ := Aside0.mk (Kd.R_drew HO_131000.out)
                                have n1_ := Aside0.mk (blk_drew BK125.out)
                                have n2_ := Aside0.mk (blk_drew BK126.out)
                                have n3_ := Aside0.mk (blk_drew BK130.out)
                                have n4_ := Aside0.mk (below_drew1 HB.out)
                                clear HO_131000
                                clear BK125
                                clear BK126
                                clear BK130
                                clear HB
                                have HO_131000 := n0_
                                have BK125 := n1_
                                have BK126 := n2_
                                have BK130 := n3_
                                have HB := n4_
                                clear n0_ n1_ n2_ n3_ n4_
                                have p149 : 0 ≤ (a3_1 : Int) := of_decide_eq_true (by first | (with_reducible assumption) | assumption)
                                have q149 : a3_1 < (l2.length : Int) := of_decide_eq_true (by first | (with_reducible assumption) | assumption)
                                obtain ⟨ad149, A149_0, c149_0, e149, hx149_0, hx149_1, hl149_0, hi149_0⟩ := at_T128 HR2.out a3_1 p149 q149
                                have hw149_1 := hx149_1
                                have hw149_0 := hx149_0
                                obtain rfl : ad147 = ad149 := (by injection e149)
                                replace hx149_0 := (HB.out.cell (World.block_lt_of_cell? w _ hx149_0)).trans hx149_0
                                replace hx149_1 := (HB.out.cell (World.block_lt_of_cell? w _ hx149_1)).trans hx149_1
                                have HR149_0 := Aside0.mk hi149_0
                                have HC149_0 := Aside0.mk hl149_0
                                clear hi149_0 hl149_0
                                replace p149 := eq_true p149
                                replace q149 := eq_true q149
                                have p150 : 0 ≤ (x17_2 : Int) := of_decide_eq_true (by first | (with_reducible assumption) | assumption)
                                have q150 : x17_2 < (((rd_T128 l2 a3_1).f0).length : Int) := of_decide_eq_true (by first | (with_reducible assumption) | assumption)
                                obtain ⟨ad150, e150, hx150_0⟩ := Kd.at_int HR149_0.out x17_2 p150 q150
                                have hw150_0 := hx150_0
                                cases e150
                                replace hx150_0 := (HB.out.cell (World.block_lt_of_cell? w _ hx150_0)).trans hx150_0
                                replace p150 := eq_true p150
                                replace q150 := eq_true q150
                                have p111 : 0 ≤ (x17_2 : Int) := of_decide_eq_true (by first | (with_reducible assumption) | assumption)
                                have q111 : (x17_2 : Int) < ((x131000_2.length : Int) : Int) := of_decide_eq_true (by first | (with_reducible assumption) | assumption)
                                obtain ⟨go111, co111, eo111, gb111, gl111, cl111, HG111⟩ := Kd.R_form HO_131000.out (by omega)
                                (first | cases eo111 | (injection eo111 with ea_ en_ ec_; (first | subst ea_ | (injection ea_ with ea_; subst ea_)); subst ec_; clear en_))
                                have GB111 := Aside0.mk gb111
                                have GG111 := Aside0.mk HG111
                                clear gb111 gl111 HG111
                                obtain ⟨hx111_0, hf111_0⟩ := Kd.R_celln 0 HO_131000.out (x17_2 : Int) p111 q111
                                replace p111 := eq_true p111
                                replace q111 := eq_true q111
                                have HP116 := Kd.R_putn HO_131000.out (x17_2 : Int) (wrap64 (Int.tdiv (rd ((rd_T128 l2 a3_1).f0) x17_2) 2))
                                rw [← Ny151.out] at HP116
                                have HQ116 := Aside0.mk HP116
                                clear HP116
                                refine start_ (n := 15) (S := fun w' => w'.cell? ⟨gb130, 0, none⟩ = some (.slice (some ⟨go111, 0, none⟩) x131000_2.length co111) ∧ w'.cell? ⟨gb130, 1, none⟩ = some (.int .i64 0) ∧ w'.cell? ⟨gb125, 0, none⟩ = some (.int .i64 a3_0) ∧ w'.cell? ⟨gb125, 1, none⟩ = some (.int .i64 a3_1) ∧ w'.cell? ⟨gb125, 2, none⟩ = some (.int .i64 a3_2) ∧ w'.cell? (ad147.add ((a3_1).toNat * 2)) = some (.slice (some ad150) ((rd_T128 l2 a3_1).f0).length c149_0) ∧ w'.cell? ⟨(ad147.add ((a3_1).toNat * 2)).block, (ad147.add ((a3_1).toNat * 2)).off + 1, none⟩ = some (.int .i64 ((rd_T128 l2 a3_1).f1)) ∧ w'.cell? (ad150.add (x17_2).toNat) = some (.int .i64 (rd ((rd_T128 l2 a3_1).f0) x17_2))) (ds := [14]) #[ff,ff,ff,ff,ff,ff,ff,ff,ff,ff,ff,ff,ff,ff,ff] (by kernel_rfl) rfl rfl ⟨(blk_cell BK130.out 0).trans rfl, (blk_cell BK130.out 1).trans rfl, (blk_cell BK125.out 0).trans rfl, (blk_cell BK125.out 1).trans rfl, (blk_cell BK125.out 2).trans rfl, ((HB.out.cell (World.block_lt_of_cell? w _ hw149_0)).trans hw149_0), ((HB.out.cell (World.block_lt_of_cell? w _ hw149_1)).trans hw149_1), ((HB.out.cell (World.block_lt_of_cell? w _ hw150_0)).trans hw150_0)⟩ (fun hHeld => ?_); refine with_tabW cosignerref12_step.tab31 cosignerref12_step.bits31 (fun HT_ HW_ => ?_)
                                generalize wr.drew = w115 at HO_131000 BK125 BK126 BK130 HB GG111 HQ116 HR149_0 hf111_0 hx111_0 hx149_0 hx149_1 hx150_0 hHeld ⊢
                                refine pure_ (i := 0) (N := some 168) (v := ?_) (a' := ?_) #[tt,ff,ff,ff,ff,ff,ff,ff,ff,ff,ff,ff,ff,ff,ff] rfl rfl (any_of HT_.out (by kernel_rfl)) (fun _ _ _ h => h) (Or.inl ⟨by rfl, ?_⟩) ?_ ?_
                                rotate_left
                                · intro w'
                                  go_simp
                                  with_reducible rfl
                                rotate_left
                                · simp only [Act.put, List.setIfInBounds_toArray, List.set_cons_zero, List.set_cons_succ, i64_w, i32_w]
                                  rfl
                                refine pure_ (i := 2) (N := some 170) (v := ?_) (a' := ?_) #[tt,ff,tt,ff,ff,ff,ff,ff,ff,ff,ff,ff,ff,ff,ff] rfl rfl (any_of HT_.out (by kernel_rfl)) (fun _ _ _ h => h) (Or.inl ⟨by rfl, ?_⟩) ?_ ?_
                                rotate_left
                                · intro w'
                                  go_simp
                                  with_reducible rfl
                                rotate_left
                                · simp only [Act.put, List.setIfInBounds_toArray, List.set_cons_zero, List.set_cons_succ, i64_w, i32_w]
                                  rfl
                                refine pure_ (i := 3) (N := some 171) (v := ?_) (a' := ?_) #[tt,ff,tt,tt,ff,ff,ff,ff,ff,ff,ff,ff,ff,ff,ff] rfl rfl (any_of HT_.out (by kernel_rfl)) (fun _ _ _ h => h) (Or.inl ⟨by rfl, ?_⟩) ?_ ?_
                                rotate_left
                                · intro w'
                                  go_simp
                                  with_reducible rfl
                                rotate_left
                                · simp only [Act.put, List.setIfInBounds_toArray, List.set_cons_zero, List.set_cons_succ, i64_w, i32_w]
                                  rfl
                                refine pure_ (i := 4) (N := some 172) (v := ?_) (a' := ?_) #[tt,ff,tt,tt,tt,ff,ff,ff,ff,ff,ff,ff,ff,ff,ff] rfl rfl (any_of HT_.out (by kernel_rfl)) (fun _ _ _ h => h) (Or.inl ⟨by rfl, ?_⟩) ?_ ?_
                                rotate_left
                                · intro w'
                                  go_simp
                                  with_reducible rfl
                                rotate_left
                                · simp only [Act.put, List.setIfInBounds_toArray, List.set_cons_zero, List.set_cons_succ, i64_w, i32_w]
                                  rfl
                                refine pure_ (i := 9) (N := some 177) (v := ?_) (a' := ?_) #[tt,ff,tt,tt,tt,ff,ff,ff,ff,tt,ff,ff,ff,ff,ff] rfl rfl (any_of HT_.out (by kernel_rfl)) (fun _ _ _ h => h) (Or.inl ⟨by rfl, ?_⟩) ?_ ?_
                                rotate_left
                                · intro w'
                                  go_simp
                                  with_reducible rfl
                                rotate_left
                                · simp only [Act.put, List.setIfInBounds_toArray, List.set_cons_zero, List.set_cons_succ, i64_w, i32_w]
                                  rfl
                                refine take_ (i := 1) (N := some 169) (v := ?_) (a' := ?_) #[tt,tt,tt,tt,tt,ff,ff,ff,ff,tt,ff,ff,ff,ff,ff] rfl rfl (take_ofW HT_.out HW_.out (by kernel_rfl)) (fun _ _ _ h => h) (Or.inl ⟨by rfl, ?_⟩) hHeld ?_ ?_
                                rotate_left
                                · rintro w' ⟨s0, s1, s2, s3, s4, s5, s6, s7⟩
                                  go_simp
                                  with_reducible rfl
                                rotate_left
                                · simp only [Act.put, List.setIfInBounds_toArray, List.set_cons_zero, List.set_cons_succ, i64_w, i32_w]
                                  rfl
                                refine take_ (i := 5) (N := some 173) (v := ?_) (a' := ?_) #[tt,tt,tt,tt,tt,tt,ff,ff,ff,tt,ff,ff,ff,ff,ff] rfl rfl (take_ofW HT_.out HW_.out (by kernel_rfl)) (fun _ _ _ h => h) (Or.inl ⟨by rfl, ?_⟩) hHeld ?_ ?_
                                rotate_left
                                · rintro w' ⟨s0, s1, s2, s3, s4, s5, s6, s7⟩
                                  go_simp
                                  with_reducible rfl
                                rotate_left
                                · simp only [Act.put, List.setIfInBounds_toArray, List.set_cons_zero, List.set_cons_succ, i64_w, i32_w]
                                  rfl
                                refine pure_ (i := 6) (N := some 174) (v := ?_) (a' := ?_) #[tt,tt,tt,tt,tt,tt,tt,ff,ff,tt,ff,ff,ff,ff,ff] rfl rfl (any_of HT_.out (by kernel_rfl)) (fun _ _ _ h => h) (Or.inl ⟨by rfl, ?_⟩) ?_ ?_
                                rotate_left
                                · intro w'
                                  go_simp
                                  with_reducible rfl
                                rotate_left
                                · simp only [Act.put, List.setIfInBounds_toArray, List.set_cons_zero, List.set_cons_succ, i64_w, i32_w]
                                  rfl
                                refine pure_ (i := 7) (N := some 175) (v := ?_) (a' := ?_) #[tt,tt,tt,tt,tt,tt,tt,tt,ff,tt,ff,ff,ff,ff,ff] rfl rfl (any_of HT_.out (by kernel_rfl)) (fun _ _ _ h => h) (Or.inl ⟨by rfl, ?_⟩) ?_ ?_
                                rotate_left
                                · intro w'
                                  go_simp
                                  with_reducible rfl
                                rotate_left
                                · simp only [Act.put, List.setIfInBounds_toArray, List.set_cons_zero, List.set_cons_succ, i64_w, i32_w]
                                  rfl
                                refine take_ (i := 8) (N := some 176) (v := ?_) (a' := ?_) #[tt,tt,tt,tt,tt,tt,tt,tt,tt,tt,ff,ff,ff,ff,ff] rfl rfl (take_ofW HT_.out HW_.out (by kernel_rfl)) (fun _ _ _ h => h) (Or.inl ⟨by rfl, ?_⟩) hHeld ?_ ?_
                                rotate_left
                                · rintro w' ⟨s0, s1, s2, s3, s4, s5, s6, s7⟩
                                  go_simp
                                  with_reducible rfl
                                rotate_left
                                · simp only [Act.put, List.setIfInBounds_toArray, List.set_cons_zero, List.set_cons_succ, i64_w, i32_w]
                                  rfl
                                refine pure_ (i := 10) (N := some 178) (v := ?_) (a' := ?_) #[tt,tt,tt,tt,tt,tt,tt,tt,tt,tt,tt,ff,ff,ff,ff] rfl rfl (any_of HT_.out (by kernel_rfl)) (fun _ _ _ h => h) (Or.inl ⟨by rfl, ?_⟩) ?_ ?_
                                rotate_left
                                · intro w'
                                  go_simp
                                  with_reducible rfl
                                rotate_left
                                · simp only [Act.put, List.setIfInBounds_toArray, List.set_cons_zero, List.set_cons_succ, i64_w, i32_w]
                                  rfl
                                refine take_ (i := 11) (N := some 179) (v := ?_) (a' := ?_) #[tt,tt,tt,tt,tt,tt,tt,tt,tt,tt,tt,tt,ff,ff,ff] rfl rfl (take_ofW HT_.out HW_.out (by kernel_rfl)) (fun _ _ _ h => h) (Or.inl ⟨by rfl, ?_⟩) hHeld ?_ ?_
                                rotate_left
                                · rintro w' ⟨s0, s1, s2, s3, s4, s5, s6, s7⟩
                                  go_simp
                                  with_reducible rfl
                                rotate_left
                                · simp only [Act.put, List.setIfInBounds_toArray, List.set_cons_zero, List.set_cons_succ, i64_w, i32_w]
                                  rfl
                                refine pure_ (i := 12) (N := some 180) (v := ?_) (a' := ?_) #[tt,tt,tt,tt,tt,tt,tt,tt,tt,tt,tt,tt,tt,ff,ff] rfl rfl (any_of HT_.out (by kernel_rfl)) (fun _ _ _ h => h) (Or.inl ⟨by rfl, ?_⟩) ?_ ?_
                                rotate_left
                                · intro w'
                                  go_simp
                                  with_reducible rfl
                                rotate_left
                                · simp only [Act.put, List.setIfInBounds_toArray, List.set_cons_zero, List.set_cons_succ, i64_w, i32_w]
                                  rfl
                                refine pure_ (i := 13) (N := some 181) (v := ?_) (a' := ?_) #[tt,tt,tt,tt,tt,tt,tt,tt,tt,tt,tt,tt,tt,tt,ff] rfl rfl (any_of HT_.out (by kernel_rfl)) (fun _ _ _ h => h) (Or.inl ⟨by rfl, ?_⟩) ?_ ?_
                                rotate_left
                                · intro w'
                                  go_simp
                                  with_reducible rfl
                                rotate_left
                                · simp only [Act.put, List.setIfInBounds_toArray, List.set_cons_zero, List.set_cons_succ, i64_w, i32_w]
                                  rfl
                                refine last_ (i := 14) (N := none) #[tt,tt,tt,tt,tt,tt,tt,tt,tt,tt,tt,tt,tt,tt,tt] rfl rfl (one_of HT_.out (by kernel_rfl)) (by decide) (fun K hK => ?_)
                                refine skip_ (w1 := ?_) (by rfl) rfl ?_ ?_
                                rotate_left
                                · go_simp
                                  rfl
                                refine hK.out _ _ ?_
                                clear hK K
                                refine done_ (done_of HT_.out (by kernel_rfl)) ?_
                                try go_wp2
                                go_roundg k2
                                case measure => have := HJ91.out; have := HK2.out; omega
                                case rel => exact ⟨(wrap64 (x17_2 + 1)), (x127001_2), (y151), (.slice (some ⟨go111, 0, none⟩) x131000_2.length co111), (by first | rfl | (simp; done) | (simp [*]; done)), H', ⟨by have := HJ91.out; have := HK2.out; omega⟩, ⟨by (with_reducible repeat (first | apply Kd.R_alloc | apply Kd.R_drewN | apply Kd.R_drew)); exact HQ116.out⟩, ⟨by (with_reducible repeat (first | refine blk_drewN ?_ _ | refine blk_drew ?_ | refine blk_alloc ?_ _)); refine blk_far ?_ (by have h_ := Kd.R_ne HO_131000.out BK125.out (by decide); intro e_; exact h_ (by rw [e_]; rfl)) _; (with_reducible repeat (first | refine blk_drewN ?_ _ | refine blk_drew ?_ | refine blk_alloc ?_ _)); exact BK125.out⟩, ⟨by (with_reducible repeat (first | refine blk_drewN ?_ _ | refine blk_drew ?_ | refine blk_alloc ?_ _)); refine blk_far ?_ (by have h_ := Kd.R_ne HO_131000.out BK126.out (by decide); intro e_; exact h_ (by rw [e_]; rfl)) _; (with_reducible repeat (first | refine blk_drewN ?_ _ | refine blk_drew ?_ | refine blk_alloc ?_ _)); exact BK126.out⟩, ⟨by (with_reducible repeat (first | refine blk_drewN ?_ _ | refine blk_drew ?_ | refine blk_alloc ?_ _)); refine blk_far ?_ (by have h_ := Kd.R_ne HO_131000.out BK130.out (by decide); intro e_; exact h_ (by rw [e_]; rfl)) _; (with_reducible repeat (first | refine blk_drewN ?_ _ | refine blk_drew ?_ | refine blk_alloc ?_ _)); exact BK130.out⟩, ⟨by repeat (first | (with_reducible first | exact HB.out | apply below_alloc | apply pw_below_drewN | apply below_drew1 | refine below_set ?_ GB111.out | refine below_set ?_ GE125.out | refine below_set ?_ GE126.out | refine below_set ?_ GE130.out) | exact HB.out)⟩⟩
                              · rw [if_neg c110] at H
                                exact absurd H (by simp)
                            · rw [if_neg c109] at H
                              have c109b0 : ((Int.tmod (rd ((rd_T128 l2 a3_1).f0) x17_2) 2) == 0) = false := beq_eq_false_iff_ne.mpr c109
                              have c109b1 : ((Int.tmod (rd ((rd_T128 l2 a3_1).f0) x17_2) 2) != 0) = true := bne_iff_ne.mpr c109
                              simp only [Option.some.injEq, Prod.mk.injEq] at H
                              obtain ⟨rfl, rfl, rfl⟩ := H
                              have hnb117 := NB125_126.out
                              have hnc117 := NB126_125.out
                              have hnb118 := NB125_130.out
                              have hnc118 := NB130_125.out
                              have hcz119_0 : wr.cell? ⟨gb125, 0, none⟩ = some (.int .i64 a3_0) := (blk_cell BK125.out 0).trans rfl
                              have hcz119_1 : wr.cell? ⟨gb125, 1, none⟩ = some (.int .i64 a3_1) := (blk_cell BK125.out 1).trans rfl
                              have hcz119_2 : wr.cell? ⟨gb125, 2, none⟩ = some (.int .i64 a3_2) := (blk_cell BK125.out 2).trans rfl
                              have hfz119_0 := blk_frozen BK125.out 0
                              have hfz119_1 := blk_frozen BK125.out 1
                              have hfz119_2 := blk_frozen BK125.out 2
                              have p147 : 0 ≤ (a3_1 : Int) := of_decide_eq_true (by first | (with_reducible assumption) | assumption)
                              have q147 : a3_1 < (l2.length : Int) := of_decide_eq_true (by first | (with_reducible assumption) | assumption)
                              obtain ⟨ad147, A147_0, c147_0, e147, hx147_0, hx147_1, hl147_0, hi147_0⟩ := at_T128 HR2.out a3_1 p147 q147
                              cases e147
                              replace hx147_0 := (HB.out.cell (World.block_lt_of_cell? w _ hx147_0)).trans hx147_0
                              replace hx147_1 := (HB.out.cell (World.block_lt_of_cell? w _ hx147_1)).trans hx147_1
                              have HR147_0 := Aside0.mk hi147_0
                              have HC147_0 := Aside0.mk hl147_0
                              clear hi147_0 hl147_0
                              replace p147 := eq_true p147
                              replace q147 := eq_true q147
                              have p148 : 0 ≤ (x17_2 : Int) := of_decide_eq_true (by first | (with_reducible assumption) | assumption)
                              have q148 : x17_2 < (((rd_T128 l2 a3_1).f0).length : Int) := of_decide_eq_true (by first | (with_reducible assumption) | assumption)
                              obtain ⟨ad148, e148, hx148_0⟩ := Kd.at_int HR147_0.out x17_2 p148 q148
                              cases e148
                              replace hx148_0 := (HB.out.cell (World.block_lt_of_cell? w _ hx148_0)).trans hx148_0
                              replace p148 := eq_true p148
                              replace q148 := eq_true q148
                              have hnb120 := NB126_130.out
                              have hnc120 := NB130_126.out
                              have hcz121_0 : wr.cell? ⟨gb126, 0, none⟩ = some (.slice none 0 0) := (blk_cell BK126.out 0).trans rfl
                              have hcz121_1 : wr.cell? ⟨gb126, 1, none⟩ = some (.int .i64 x127001_2) := (blk_cell BK126.out 1).trans rfl
                              have hfz121_0 := blk_frozen BK126.out 0
                              have hfz121_1 := blk_frozen BK126.out 1
                              go_wp2
                              refine bodyPost_ret (results_ct rfl _ _ gb126 128 #[.slice none 0 0, .int .i64 0] (0, 0) _ rfl (by (with_reducible repeat (first | refine blk_drewN ?_ _ | refine blk_drew ?_ | refine blk_alloc ?_ _)); refine blk_put (cs := #[.slice none 0 0, .int .i64 x127001_2]) ?_ 1 _ rfl; (with_reducible repeat (first | refine blk_drewN ?_ _ | refine blk_drew ?_ | refine blk_alloc ?_ _)); refine blk_put (cs := #[.slice none 0 0, .int .i64 x127001_2]) ?_ 0 _ rfl; (with_reducible repeat (first | refine blk_drewN ?_ _ | refine blk_drew ?_ | refine blk_alloc ?_ _)); exact BK126.out) Try.underlying128 rfl (by kernel_rfl)) rfl ?_
                              exact ⟨_, by first | rfl | (simp [errW_none, errW_some] <;> rfl) | (simp [*, errW_none, errW_some] <;> rfl), by first | exact Kd.R_nil _ _ _ _ _ | exact Kd.N_nil _ _ _ _ _ | exact Kd.V_nil _ _ _ _ _ | exact Kd.Q_nil _ _ _ _ _ | exact Kd.S_nil _ _ _ _ _, by repeat (first | (with_reducible first | exact HB.out | apply below_alloc | apply pw_below_drewN | apply below_drew1 | refine below_set ?_ GE125.out | refine below_set ?_ GE126.out | refine below_set ?_ GE130.out) | exact HB.out)⟩
                          · rw [if_neg c108] at H
                            exact absurd H (by simp)
                        · rw [if_neg c107] at H
                          exact absurd H (by simp)
                      · rw [if_neg c106] at H
                        exact absurd H (by simp)
                    · rw [if_neg c105] at H
                      exact absurd H (by simp)
                  · rw [if_neg c104] at H
                    have c104b0 : decide (x17_2 < a0) = false := decide_eq_false c104
                    clear c104
                    by_cases c122 : 0 ≤ a3_1
                    · rw [if_pos c122] at H
                      have c122b0 : decide (0 ≤ a3_1) = true := decide_eq_true c122
                      clear c122
                      by_cases c123 : a3_1 < (l2.length : Int)
                      · rw [if_pos c123] at H
                        have c123b0 : decide (a3_1 < (l2.length : Int)) = true := decide_eq_true c123
                        clear c123
                        replace H := Option.bind_eq_some_iff.mp H
                        obtain ⟨t153, A1240, H⟩ := H
                        replace H : (cosignerref12_step.j4 k2 a0 x131000_2 t153) = some (r1, r2, r3) := H
                        have A124 := Aside0.mk A1240
                        clear A1240
                        have H' := Aside0.mk H
                        clear H
                        have hnb125 := NB125_126.out
                        have hnc125 := NB126_125.out
                        have hnb126 := NB125_130.out
                        have hnc126 := NB130_125.out
                        have hcz127_0 : wr.cell? ⟨gb125, 0, none⟩ = some (.int .i64 a3_0) := (blk_cell BK125.out 0).trans rfl
                        have hcz127_1 : wr.cell? ⟨gb125, 1, none⟩ = some (.int .i64 a3_1) := (blk_cell BK125.out 1).trans rfl
                        have hcz127_2 : wr.cell? ⟨gb125, 2, none⟩ = some (.int .i64 a3_2) := (blk_cell BK125.out 2).trans rfl
                        have hfz127_0 := blk_frozen BK125.out 0
                        have hfz127_1 := blk_frozen BK125.out 1
                        have hfz127_2 := blk_frozen BK125.out 2
                        have p152 : 0 ≤ (a3_1 : Int) := of_decide_eq_true (by first | (with_reducible assumption) | assumption)
                        have q152 : a3_1 < (l2.length : Int) := of_decide_eq_true (by first | (with_reducible assumption) | assumption)
                        obtain ⟨ad152, A152_0, c152_0, e152, hx152_0, hx152_1, hl152_0, hi152_0⟩ := at_T128 HR2.out a3_1 p152 q152
                        cases e152
                        replace hx152_0 := (HB.out.cell (World.block_lt_of_cell? w _ hx152_0)).trans hx152_0
                        replace hx152_1 := (HB.out.cell (World.block_lt_of_cell? w _ hx152_1)).trans hx152_1
                        have HR152_0 := Aside0.mk hi152_0
                        have HC152_0 := Aside0.mk hl152_0
                        clear hi152_0 hl152_0
                        replace p152 := eq_true p152
                        replace q152 := eq_true q152
                        go_wp2_with (first | ((with_reducible refine gate_callee (f := 104) rfl ?_); refine goesL_ (some 188) rfl rfl Try.func104 (by kernel_rfl) rfl #[.int .i64 ((rd_T128 l2 a3_1).f1)] rfl (by (try simp only [List.map_toArray, List.map_cons, List.map_nil]); first | done | rfl | (simp only [List.length_drop, List.length_take]; rfl)) ?_; (with_reducible refine (cosignerref12_half.calls ((rd_T128 l2 a3_1).f1) t153 _ A124.out).mono ?_); rintro e w' ⟨rfl, ⟨nd, rfl⟩⟩; refine ⟨_, rfl, ?_⟩; (try (rw [drewN_self wr]; generalize hq_ : World.drewN wr _ = wr; have n0_ : Aside0 (Kd.R (Kd.int .i64) 3 wr w.heap.size (fun _ => True) u131000 x131000_2) := ⟨by rw [← hq_]; exact (by (with_reducible repeat (first | apply Kd.R_alloc | apply Kd.R_drewN | apply Kd.R_drew)); exact HO_131000.out)⟩; have n1_ : Aside0 (wr.heap[gb125]? = some (.cells #[.int .i64 a3_0, .int .i64 a3_1, .int .i64 a3_2] 166 (0, 0))) := ⟨by rw [← hq_]; exact (by (with_reducible repeat (first | refine blk_drewN ?_ _ | refine blk_drew ?_ | refine blk_alloc ?_ _)); exact BK125.out)⟩; have n2_ : Aside0 (wr.heap[gb126]? = some (.cells #[.slice none 0 0, .int .i64 x127001_2] 128 (0, 0))) := ⟨by rw [← hq_]; exact (by (with_reducible repeat (first | refine blk_drewN ?_ _ | refine blk_drew ?_ | refine blk_alloc ?_ _)); exact BK126.out)⟩; have n3_ : Aside0 (wr.heap[gb130]? = some (.cells #[u131000, .int .i64 0] 128 (0, 0))) := ⟨by rw [← hq_]; exact (by (with_reducible repeat (first | refine blk_drewN ?_ _ | refine blk_drew ?_ | refine blk_alloc ?_ _)); exact BK130.out)⟩; have n4_ : Aside0 (Below w.heap.size w wr) := ⟨by rw [← hq_]; exact (by repeat (first | (with_reducible first | exact HB.out | apply below_alloc | apply pw_below_drewN | apply below_drew1 | refine below_set ?_ GE125.out | refine below_set ?_ GE126.out | refine below_set ?_ GE130.out) | exact HB.out))⟩; clear HO_131000 BK125 BK126 BK130 HB hq_; have HO_131000 := n0_; have BK125 := n1_; have BK126 := n2_; have BK130 := n3_; have HB := n4_; clear n0_ n1_ n2_ n3_ n4_)); have hnb128 := NB130_126.out; have hnc128 := NB126_130.out; have hcz129_0 : wr.cell? ⟨gb130, 0, none⟩ = some (u131000) := (blk_cell BK130.out 0).trans rfl; have hcz129_1 : wr.cell? ⟨gb130, 1, none⟩ = some (.int .i64 0) := (blk_cell BK130.out 1).trans rfl; have hfz129_0 := blk_frozen BK130.out 0; have hfz129_1 := blk_frozen BK130.out 1))
                        go_meet
                        case rel => exact ⟨_, (x127001_2), (x131000_2), (t153), (u131000), H', ⟨by have := HJ91.out; have := HK2.out; first | omega | exact Nat.le_refl _⟩, ⟨by (with_reducible repeat (first | apply Kd.R_alloc | apply Kd.R_drewN | apply Kd.R_drew)); exact Kd.R_mono (Kd.R_far (p := ⟨gb130, 1, none⟩) (Kd.R_types HO_131000.out BK130.out (by decide)) (fun _ hk => hk.2) (.int .i64 t153)) (fun _ hk => trivial)⟩, ⟨by (with_reducible repeat (first | refine blk_drewN ?_ _ | refine blk_drew ?_ | refine blk_alloc ?_ _)); refine blk_far ?_ NB125_130.out _; (with_reducible repeat (first | refine blk_drewN ?_ _ | refine blk_drew ?_ | refine blk_alloc ?_ _)); exact BK125.out⟩, ⟨by (with_reducible repeat (first | refine blk_drewN ?_ _ | refine blk_drew ?_ | refine blk_alloc ?_ _)); refine blk_far ?_ NB126_130.out _; (with_reducible repeat (first | refine blk_drewN ?_ _ | refine blk_drew ?_ | refine blk_alloc ?_ _)); exact BK126.out⟩, ⟨by (with_reducible repeat (first | refine blk_drewN ?_ _ | refine blk_drew ?_ | refine blk_alloc ?_ _)); refine blk_put (cs := #[u131000, .int .i64 0]) ?_ 1 _ rfl; (with_reducible repeat (first | refine blk_drewN ?_ _ | refine blk_drew ?_ | refine blk_alloc ?_ _)); exact BK130.out⟩, ⟨by repeat (first | (with_reducible first | exact HB.out | apply below_alloc | apply pw_below_drewN | apply below_drew1 | refine below_set ?_ GE125.out | refine below_set ?_ GE126.out | refine below_set ?_ GE130.out) | exact HB.out)⟩⟩
                      · rw [if_neg c123] at H
                        exact absurd H (by simp)
                    · rw [if_neg c122] at H
                      exact absurd H (by simp)
          · rw [if_neg c90] at H
            have c90b0 : (a3_0 == 3) = false := beq_eq_false_iff_ne.mpr c90
            have c90b1 : (a3_0 != 3) = true := bne_iff_ne.mpr c90
            simp only [Option.some.injEq, Prod.mk.injEq] at H
            obtain ⟨rfl, rfl, rfl⟩ := H
            have hnb130 := NB126_125.out
            have hnc130 := NB125_126.out
            have hnb131 := NB126_130.out
            have hnc131 := NB130_126.out
            have hcz132_0 : w13.cell? ⟨gb126, 0, none⟩ = some (.slice none 0 0) := (blk_cell BK126.out 0).trans rfl
            have hcz132_1 : w13.cell? ⟨gb126, 1, none⟩ = some (.int .i64 0) := (blk_cell BK126.out 1).trans rfl
            have hfz132_0 := blk_frozen BK126.out 0
            have hfz132_1 := blk_frozen BK126.out 1
            go_wp2
            refine bodyPost_ret (results_ct rfl _ _ gb126 128 #[.slice none 0 0, .int .i64 0] (0, 0) _ rfl (by (with_reducible repeat (first | refine blk_drewN ?_ _ | refine blk_drew ?_ | refine blk_alloc ?_ _)); refine blk_put (cs := #[.slice none 0 0, .int .i64 0]) ?_ 1 _ rfl; (with_reducible repeat (first | refine blk_drewN ?_ _ | refine blk_drew ?_ | refine blk_alloc ?_ _)); refine blk_put (cs := #[.slice none 0 0, .int .i64 0]) ?_ 0 _ rfl; (with_reducible repeat (first | refine blk_drewN ?_ _ | refine blk_drew ?_ | refine blk_alloc ?_ _)); refine blk_far ?_ NB126_130.out _; (with_reducible repeat (first | refine blk_drewN ?_ _ | refine blk_drew ?_ | refine blk_alloc ?_ _)); refine blk_far ?_ NB126_130.out _; (with_reducible repeat (first | refine blk_drewN ?_ _ | refine blk_drew ?_ | refine blk_alloc ?_ _)); exact BK126.out) Try.underlying128 rfl (by kernel_rfl)) rfl ?_
            exact ⟨_, by first | rfl | (simp [errW_none, errW_some] <;> rfl) | (simp [*, errW_none, errW_some] <;> rfl), by first | exact Kd.R_nil _ _ _ _ _ | exact Kd.N_nil _ _ _ _ _ | exact Kd.V_nil _ _ _ _ _ | exact Kd.Q_nil _ _ _ _ _ | exact Kd.S_nil _ _ _ _ _, by repeat (first | (with_reducible first | exact HB.out | apply below_alloc | apply pw_below_drewN | apply below_drew1 | refine below_set ?_ GE125.out | refine below_set ?_ GE126.out | refine below_set ?_ GE130.out) | exact HB.out)⟩
     case rest =>
      clear HC7
      try clear c1
      try clear p1
      try clear q1
      try clear hx1
      try clear p2
      try clear c6
      try clear p6
      try clear c7
      try clear c8
      try clear p8
      try clear q8
      try clear hx8
      try clear hf8
      try clear c9
      try clear c10
      try clear c11
      try clear p11
      try clear q11
      try clear hx11
      try clear hf11
      try clear c12
      try clear c13
      try clear p13
      try clear q13
      try clear hx13
      try clear c14
      try clear p14
      try clear q14
      try clear hx14
      try clear c15
      try clear p15
      try clear q15
      try clear hx15
      try clear c60
      try clear c60b0
      try clear c60b1
      try clear c64
      try clear p64
      try clear c72
      try clear c72b0
      try clear c73
      try clear c73b0
      try clear c74
      try clear c74b0
      try clear c75
      try clear c75b0
      try clear c76
      try clear c76b0
      try clear c77
      try clear c77b0
      try clear c78
      try clear c78b0
      try clear c79
      try clear c79b0
      try clear c80
      try clear c80b0
      try clear p81
      try clear q81
      try clear hx81
      try clear hf81
      try clear c84
      try clear c84b0
      try clear c85
      try clear c85b0
      try clear c86
      try clear c86b0
      try clear c87
      try clear c87b0
      try clear c90
      try clear c90b0
      try clear c90b1
      try clear c93
      try clear c94
      try clear c96
      try clear c97
      try clear c98
      try clear c100
      try clear c101
      try clear c102
      try clear c104
      try clear c104b0
      try clear c105
      try clear c105b0
      try clear c106
      try clear c106b0
      try clear c107
      try clear c107b0
      try clear c108
      try clear c108b0
      try clear c109
      try clear c109b0
      try clear c109b1
      try clear c110
      try clear c110b0
      try clear p111
      try clear q111
      try clear hx111
      try clear hf111
      try clear c112
      try clear c113
      try clear c117
      try clear c118
      try clear c120
      try clear c122
      try clear c122b0
      try clear c123
      try clear c123b0
      try clear c125
      try clear c126
      try clear c128
      try clear c130
      try clear c131
      try clear hcz103_0
      try clear hcz103_1
      try clear hcz114_0
      try clear hcz114_1
      try clear hcz114_2
      try clear hcz119_0
      try clear hcz119_1
      try clear hcz119_2
      try clear hcz121_0
      try clear hcz121_1
      try clear hcz127_0
      try clear hcz127_1
      try clear hcz127_2
      try clear hcz129_0
      try clear hcz129_1
      try clear hcz132_0
      try clear hcz132_1
      try clear hcz95_0
      try clear hcz95_1
      try clear hcz95_2
      try clear hcz99_0
      try clear hcz99_1
      try clear hcz99_2
      try clear hfz103_0
      try clear hfz103_1
      try clear hfz114_0
      try clear hfz114_1
      try clear hfz114_2
      try clear hfz119_0
      try clear hfz119_1
      try clear hfz119_2
      try clear hfz121_0
      try clear hfz121_1
      try clear hfz127_0
      try clear hfz127_1
      try clear hfz127_2
      try clear hfz129_0
      try clear hfz129_1
      try clear hfz132_0
      try clear hfz132_1
      try clear hfz95_0
      try clear hfz95_1
      try clear hfz95_2
      try clear hfz99_0
      try clear hfz99_1
      try clear hfz99_2
      try clear hx111_0
      try clear hx139_0
      try clear hx139_1
      try clear hx140_0
      try clear hx141_0
      try clear hx141_1
      try clear hx142_0
      try clear hx144_0
      try clear hx144_1
      try clear hx145_0
      try clear hx145_1
      try clear hx147_0
      try clear hx147_1
      try clear hx148_0
      try clear hx149_0
      try clear hx149_1
      try clear hx150_0
      try clear hx152_0
      try clear hx152_1
      try clear hx81_0
      try clear p1
      try clear p111
      try clear p13
      try clear p139
      try clear p14
      try clear p140
      try clear p141
      try clear p142
      try clear p144
      try clear p145
      try clear p147
      try clear p148
      try clear p149
      try clear p150
      try clear p152
      try clear p2
      try clear p6
      try clear p64
      try clear p8
      try clear p81
      try clear q1
      try clear q111
      try clear q13
      try clear q139
      try clear q14
      try clear q140
      try clear q141
      try clear q142
      try clear q144
      try clear q145
      try clear q147
      try clear q148
      try clear q149
      try clear q150
      try clear q152
      try clear q8
      try clear q81
      obtain ⟨kq, x127001_6, x131000_6, x131001_6, u131000, HA, HJ6, HO_131000, BK125, BK126, BK130, HB⟩ := hcut
      cases kq with
      | zero => exact absurd HA.out (by simp [cosignerref12_step.j4])
      | succ kj6 =>
       have H := HA.out
       clear HA
       simp only [cosignerref12_step.j4] at H
       replace H := Option.bind_eq_some_iff.mp H
       obtain ⟨t154, A1330, H⟩ := H
       replace H : (cosignerref12_step.l2 kj6 a0 t154 0 x131000_6 x131001_6) = some (r1, r2, r3) := H
       have A133 := Aside0.mk A1330
       clear A1330
       have H' := Aside0.mk H
       clear H
       have hnb134 := NB130_125.out
       have hnc134 := NB125_130.out
       have hnb135 := NB130_126.out
       have hnc135 := NB126_130.out
       have hcz136_0 : wc.cell? ⟨gb130, 0, none⟩ = some (u131000) := (blk_cell BK130.out 0).trans rfl
       have hcz136_1 : wc.cell? ⟨gb130, 1, none⟩ = some (.int .i64 x131001_6) := (blk_cell BK130.out 1).trans rfl
       have hfz136_0 := blk_frozen BK130.out 0
       have hfz136_1 := blk_frozen BK130.out 1
       go_wp2_with (first | ((with_reducible refine gate_callee (f := 64) rfl ?_); refine goesL_ (some 192) rfl rfl Try.func64 (by kernel_rfl) rfl #[.int .i64 x131001_6, .int .i64 (-1125899906842624), .int .i64 1125899906842624] rfl (by (try simp only [List.map_toArray, List.map_cons, List.map_nil]); first | done | rfl | (simp only [List.length_drop, List.length_take]; rfl)) ?_; (with_reducible refine (cosignerref12_in.calls x131001_6 (-1125899906842624) 1125899906842624 t154 _ A133.out).mono ?_); rintro e w' ⟨rfl, ⟨nd, rfl⟩⟩; refine ⟨_, rfl, ?_⟩))
       go_loopg [18, 19] kj6 (fun kq v18 v19 w' => ∃ (x18_2 : Bool) (x19_2 : Int), v18 = .bool x18_2 ∧ v19 = .int .i64 x19_2 ∧ Aside0 (cosignerref12_step.l2 kq a0 x18_2 x19_2 x131000_6 x131001_6 = some (r1, r2, r3)) ∧ Aside0 (kq ≤ kj6) ∧ Aside0 (Kd.R (Kd.int .i64) 3 w' w.heap.size (fun _ => True) u131000 x131000_6) ∧ Aside0 (w'.heap[gb125]? = some (.cells #[.int .i64 a3_0, .int .i64 a3_1, .int .i64 a3_2] 166 (0, 0))) ∧ Aside0 (w'.heap[gb126]? = some (.cells #[(.slice none 0 0), .int .i64 x127001_6] 128 (0, 0))) ∧ Aside0 (w'.heap[gb130]? = some (.cells #[u131000, .int .i64 x131001_6] 128 (0, 0))) ∧ Aside0 (Below w.heap.size w w'))
       case atStart => exact ⟨(t154), (0), (by first | rfl | (simp; done) | (simp [*]; done)), (by first | rfl | (simp; done) | (simp [*]; done)), H', ⟨Nat.le_refl _⟩, ⟨by (with_reducible repeat (first | apply Kd.R_alloc | apply Kd.R_drewN | apply Kd.R_drew)); exact HO_131000.out⟩, ⟨by (with_reducible repeat (first | refine blk_drewN ?_ _ | refine blk_drew ?_ | refine blk_alloc ?_ _)); exact BK125.out⟩, ⟨by (with_reducible repeat (first | refine blk_drewN ?_ _ | refine blk_drew ?_ | refine blk_alloc ?_ _)); exact BK126.out⟩, ⟨by (with_reducible repeat (first | refine blk_drewN ?_ _ | refine blk_drew ?_ | refine blk_alloc ?_ _)); exact BK130.out⟩, ⟨by repeat (first | (with_reducible first | exact HB.out | apply below_alloc | apply pw_below_drewN | apply below_drew1 | refine below_set ?_ GE125.out | refine below_set ?_ GE126.out | refine below_set ?_ GE130.out) | exact HB.out)⟩⟩
       case round =>
        clear H'
        try clear c1
        try clear p1
        try clear q1
        try clear hx1
        try clear p2
        try clear c6
        try clear p6
        try clear c7
        try clear c8
        try clear p8
        try clear q8
        try clear hx8
        try clear hf8
        try clear c9
        try clear c10
        try clear c11
        try clear p11
        try clear q11
        try clear hx11
        try clear hf11
        try clear c12
        try clear c13
        try clear p13
        try clear q13
        try clear hx13
        try clear c14
        try clear p14
        try clear q14
        try clear hx14
        try clear c15
        try clear p15
        try clear q15
        try clear hx15
        try clear c60
        try clear c60b0
        try clear c60b1
        try clear c64
        try clear p64
        try clear c72
        try clear c72b0
        try clear c73
        try clear c73b0
        try clear c74
        try clear c74b0
        try clear c75
        try clear c75b0
        try clear c76
        try clear c76b0
        try clear c77
        try clear c77b0
        try clear c78
        try clear c78b0
        try clear c79
        try clear c79b0
        try clear c80
        try clear c80b0
        try clear p81
        try clear q81
        try clear hx81
        try clear hf81
        try clear c84
        try clear c84b0
        try clear c85
        try clear c85b0
        try clear c86
        try clear c86b0
        try clear c87
        try clear c87b0
        try clear c90
        try clear c90b0
        try clear c90b1
        try clear c93
        try clear c94
        try clear c96
        try clear c97
        try clear c98
        try clear c100
        try clear c101
        try clear c102
        try clear c104
        try clear c104b0
        try clear c105
        try clear c105b0
        try clear c106
        try clear c106b0
        try clear c107
        try clear c107b0
        try clear c108
        try clear c108b0
        try clear c109
        try clear c109b0
        try clear c109b1
        try clear c110
        try clear c110b0
        try clear p111
        try clear q111
        try clear hx111
        try clear hf111
        try clear c112
        try clear c113
        try clear c117
        try clear c118
        try clear c120
        try clear c122
        try clear c122b0
        try clear c123
        try clear c123b0
        try clear c125
        try clear c126
        try clear c128
        try clear c130
        try clear c131
        try clear c134
        try clear c135
        try clear hcz103_0
        try clear hcz103_1
        try clear hcz114_0
        try clear hcz114_1
        try clear hcz114_2
        try clear hcz119_0
        try clear hcz119_1
        try clear hcz119_2
        try clear hcz121_0
        try clear hcz121_1
        try clear hcz127_0
        try clear hcz127_1
        try clear hcz127_2
        try clear hcz129_0
        try clear hcz129_1
        try clear hcz132_0
        try clear hcz132_1
        try clear hcz136_0
        try clear hcz136_1
        try clear hcz95_0
        try clear hcz95_1
        try clear hcz95_2
        try clear hcz99_0
        try clear hcz99_1
        try clear hcz99_2
        try clear hfz103_0
        try clear hfz103_1
        try clear hfz114_0
        try clear hfz114_1
        try clear hfz114_2
        try clear hfz119_0
        try clear hfz119_1
        try clear hfz119_2
        try clear hfz121_0
        try clear hfz121_1
        try clear hfz127_0
        try clear hfz127_1
        try clear hfz127_2
        try clear hfz129_0
        try clear hfz129_1
        try clear hfz132_0
        try clear hfz132_1
        try clear hfz136_0
        try clear hfz136_1
        try clear hfz95_0
        try clear hfz95_1
        try clear hfz95_2
        try clear hfz99_0
        try clear hfz99_1
        try clear hfz99_2
        try clear hx111_0
        try clear hx139_0
        try clear hx139_1
        try clear hx140_0
        try clear hx141_0
        try clear hx141_1
        try clear hx142_0
        try clear hx144_0
        try clear hx144_1
        try clear hx145_0
        try clear hx145_1
        try clear hx147_0
        try clear hx147_1
        try clear hx148_0
        try clear hx149_0
        try clear hx149_1
        try clear hx150_0
        try clear hx152_0
        try clear hx152_1
        try clear hx81_0
        try clear p1
        try clear p11
        try clear p111
        try clear p13
        try clear p139
        try clear p14
        try clear p140
        try clear p141
        try clear p142
        try clear p144
        try clear p145
        try clear p147
        try clear p148
        try clear p149
        try clear p15
        try clear p150
        try clear p152
        try clear p2
        try clear p6
        try clear p64
        try clear p8
        try clear p81
        try clear q1
        try clear q11
        try clear q111
        try clear q13
        try clear q139
        try clear q14
        try clear q140
        try clear q141
        try clear q142
        try clear q144
        try clear q145
        try clear q147
        try clear q148
        try clear q149
        try clear q15
        try clear q150
        try clear q152
        try clear q8
        try clear q81
        obtain ⟨x18_2, x19_2, rfl, rfl, HA, HK2, HO_131000, BK125, BK126, BK130, HB⟩ := hrel
        cases gk with
        | zero => exact absurd HA.out (by simp [cosignerref12_step.l2])
        | succ k2 =>
         have H := HA.out
         clear HA
         simp only [cosignerref12_step.l2] at H
         by_cases c137 : x19_2 < a0
         · rw [if_pos c137] at H
           have c137b0 : decide (x19_2 < a0) = true := decide_eq_true c137
           clear c137
           by_cases c138 : 0 ≤ x19_2
           · rw [if_pos c138] at H
             have c138b0 : decide (0 ≤ x19_2) = true := decide_eq_true c138
             clear c138
             by_cases c139 : x19_2 < (x131000_6.length : Int)
             · rw [if_pos c139] at H
               have c139b0 : decide (x19_2 < (x131000_6.length : Int)) = true := decide_eq_true c139
               clear c139
               replace H := Option.bind_eq_some_iff.mp H
               obtain ⟨t156, A1400, H⟩ := H
               replace H : (if x18_2 = true then (cosignerref12_step.l2 k2 a0 t156 (wrap64 (x19_2 + 1)) x131000_6 x131001_6) else (cosignerref12_step.l2 k2 a0 false (wrap64 (x19_2 + 1)) x131000_6 x131001_6)) = some (r1, r2, r3) := H
               have A140 := Aside0.mk A1400
               clear A1400
               by_cases c141 : x18_2 = true
               · subst c141
                 have H1 : (cosignerref12_step.l2 k2 a0 t156 (wrap64 (x19_2 + 1)) x131000_6 x131001_6) = some (r1, r2, r3) := by rw [if_pos rfl] at H; exact H
                 clear H
                 have H := H1
                 clear H1
                 have H' := Aside0.mk H
                 clear H
                 have hnb142 := NB130_125.out
                 have hnc142 := NB125_130.out
                 have hnb143 := NB130_126.out
                 have hnc143 := NB126_130.out
                 have hcz144_0 : wr.cell? ⟨gb130, 0, none⟩ = some (u131000) := (blk_cell BK130.out 0).trans rfl
                 have hcz144_1 : wr.cell? ⟨gb130, 1, none⟩ = some (.int .i64 x131001_6) := (blk_cell BK130.out 1).trans rfl
                 have hfz144_0 := blk_frozen BK130.out 0
                 have hfz144_1 := blk_frozen BK130.out 1
                 obtain ⟨Ao145, co145, eo145⟩ := Kd.R_slice HO_131000.out
                 subst eo145
                 have p155 : 0 ≤ (x19_2 : Int) := of_decide_eq_true (by first | (with_reducible assumption) | assumption)
                 have q155 : x19_2 < (x131000_6.length : Int) := of_decide_eq_true (by first | (with_reducible assumption) | assumption)
                 obtain ⟨ad155, e155, hx155_0⟩ := Kd.at_int (Kd.R_reads' HO_131000.out).2.2 x19_2 p155 q155
                 cases e155
                 replace p155 := eq_true p155
                 replace q155 := eq_true q155
                 go_wp2_with (first | ((with_reducible refine gate_callee (f := 64) rfl ?_); refine goesL_ (some 203) rfl rfl Try.func64 (by kernel_rfl) rfl #[.int .i64 (rd x131000_6 x19_2), .int .i64 (-100), .int .i64 100] rfl (by (try simp only [List.map_toArray, List.map_cons, List.map_nil]); first | done | rfl | (simp only [List.length_drop, List.length_take]; rfl)) ?_; (with_reducible refine (cosignerref12_in.calls (rd x131000_6 x19_2) (-100) 100 t156 _ A140.out).mono ?_); rintro e w' ⟨rfl, ⟨nd, rfl⟩⟩; refine ⟨_, rfl, ?_⟩))
                 go_roundg k2
                 case measure => have := HJ6.out; have := HK2.out; omega
                 case rel => exact ⟨(t156), (wrap64 (x19_2 + 1)), (by first | rfl | (simp; done) | (simp [*]; done)), (by first | rfl | (simp; done) | (simp [*]; done)), H', ⟨by have := HJ6.out; have := HK2.out; omega⟩, ⟨by (with_reducible repeat (first | apply Kd.R_alloc | apply Kd.R_drewN | apply Kd.R_drew)); exact HO_131000.out⟩, ⟨by (with_reducible repeat (first | refine blk_drewN ?_ _ | refine blk_drew ?_ | refine blk_alloc ?_ _)); exact BK125.out⟩, ⟨by (with_reducible repeat (first | refine blk_drewN ?_ _ | refine blk_drew ?_ | refine blk_alloc ?_ _)); exact BK126.out⟩, ⟨by (with_reducible repeat (first | refine blk_drewN ?_ _ | refine blk_drew ?_ | refine blk_alloc ?_ _)); exact BK130.out⟩, ⟨by repeat (first | (with_reducible first | exact HB.out | apply below_alloc | apply pw_below_drewN | apply below_drew1 | refine below_set ?_ GE125.out | refine below_set ?_ GE126.out | refine below_set ?_ GE130.out) | exact HB.out)⟩⟩
               · replace c141 := Bool.eq_false_iff.mpr c141
                 subst c141
                 have H1 : (cosignerref12_step.l2 k2 a0 false (wrap64 (x19_2 + 1)) x131000_6 x131001_6) = some (r1, r2, r3) := by rw [if_neg (show ¬ (false = true) by decide)] at H; exact H
                 clear H
                 have H := H1
                 clear H1
                 have H' := Aside0.mk H
                 clear H
                 have hnb146 := NB130_125.out
                 have hnc146 := NB125_130.out
                 have hnb147 := NB130_126.out
                 have hnc147 := NB126_130.out
                 have hcz148_0 : wr.cell? ⟨gb130, 0, none⟩ = some (u131000) := (blk_cell BK130.out 0).trans rfl
                 have hcz148_1 : wr.cell? ⟨gb130, 1, none⟩ = some (.int .i64 x131001_6) := (blk_cell BK130.out 1).trans rfl
                 have hfz148_0 := blk_frozen BK130.out 0
                 have hfz148_1 := blk_frozen BK130.out 1
                 obtain ⟨Ao149, co149, eo149⟩ := Kd.R_slice HO_131000.out
                 subst eo149
                 have p155 : 0 ≤ (x19_2 : Int) := of_decide_eq_true (by first | (with_reducible assumption) | assumption)
                 have q155 : x19_2 < (x131000_6.length : Int) := of_decide_eq_true (by first | (with_reducible assumption) | assumption)
                 obtain ⟨ad155, e155, hx155_0⟩ := Kd.at_int (Kd.R_reads' HO_131000.out).2.2 x19_2 p155 q155
                 cases e155
                 replace p155 := eq_true p155
                 replace q155 := eq_true q155
                 go_wp2_with (first | ((with_reducible refine gate_callee (f := 64) rfl ?_); refine goesL_ (some 203) rfl rfl Try.func64 (by kernel_rfl) rfl #[.int .i64 (rd x131000_6 x19_2), .int .i64 (-100), .int .i64 100] rfl (by (try simp only [List.map_toArray, List.map_cons, List.map_nil]); first | done | rfl | (simp only [List.length_drop, List.length_take]; rfl)) ?_; (with_reducible refine (cosignerref12_in.calls (rd x131000_6 x19_2) (-100) 100 t156 _ A140.out).mono ?_); rintro e w' ⟨rfl, ⟨nd, rfl⟩⟩; refine ⟨_, rfl, ?_⟩))
                 go_roundg k2
                 case measure => have := HJ6.out; have := HK2.out; omega
                 case rel => exact ⟨(false), (wrap64 (x19_2 + 1)), (by first | rfl | (simp; done) | (simp [*]; done)), (by first | rfl | (simp; done) | (simp [*]; done)), H', ⟨by have := HJ6.out; have := HK2.out; omega⟩, ⟨by (with_reducible repeat (first | apply Kd.R_alloc | apply Kd.R_drewN | apply Kd.R_drew)); exact HO_131000.out⟩, ⟨by (with_reducible repeat (first | refine blk_drewN ?_ _ | refine blk_drew ?_ | refine blk_alloc ?_ _)); exact BK125.out⟩, ⟨by (with_reducible repeat (first | refine blk_drewN ?_ _ | refine blk_drew ?_ | refine blk_alloc ?_ _)); exact BK126.out⟩, ⟨by (with_reducible repeat (first | refine blk_drewN ?_ _ | refine blk_drew ?_ | refine blk_alloc ?_ _)); exact BK130.out⟩, ⟨by repeat (first | (with_reducible first | exact HB.out | apply below_alloc | apply pw_below_drewN | apply below_drew1 | refine below_set ?_ GE125.out | refine below_set ?_ GE126.out | refine below_set ?_ GE130.out) | exact HB.out)⟩⟩
             · rw [if_neg c139] at H
               exact absurd H (by simp)
           · rw [if_neg c138] at H
             exact absurd H (by simp)
         · rw [if_neg c137] at H
           have c137b0 : decide (x19_2 < a0) = false := decide_eq_false c137
           clear c137
           simp only [Option.some.injEq, Prod.mk.injEq] at H
           obtain ⟨rfl, rfl, rfl⟩ := H
           have hnb150 := NB130_125.out
           have hnc150 := NB125_130.out
           have hnb151 := NB130_126.out
           have hnc151 := NB126_130.out
           have hcz152_0 : wr.cell? ⟨gb130, 0, none⟩ = some (u131000) := (blk_cell BK130.out 0).trans rfl
           have hcz152_1 : wr.cell? ⟨gb130, 1, none⟩ = some (.int .i64 x131001_6) := (blk_cell BK130.out 1).trans rfl
           have hfz152_0 := blk_frozen BK130.out 0
           have hfz152_1 := blk_frozen BK130.out 1
           obtain ⟨Ao153, co153, eo153⟩ := Kd.R_slice HO_131000.out
           subst eo153
           have hnb154 := NB126_125.out
           have hnc154 := NB125_126.out
           have hcz155_0 : wr.cell? ⟨gb126, 0, none⟩ = some (.slice none 0 0) := (blk_cell BK126.out 0).trans rfl
           have hcz155_1 : wr.cell? ⟨gb126, 1, none⟩ = some (.int .i64 x127001_6) := (blk_cell BK126.out 1).trans rfl
           have hfz155_0 := blk_frozen BK126.out 0
           have hfz155_1 := blk_frozen BK126.out 1
           go_wp2
           refine bodyPost_ret (results_ct rfl _ _ gb126 128 #[.slice Ao153 x131000_6.length co153, .int .i64 x131001_6] (0, 0) _ rfl (by (with_reducible repeat (first | refine blk_drewN ?_ _ | refine blk_drew ?_ | refine blk_alloc ?_ _)); refine blk_put (cs := #[.slice Ao153 x131000_6.length co153, .int .i64 x127001_6]) ?_ 1 _ rfl; (with_reducible repeat (first | refine blk_drewN ?_ _ | refine blk_drew ?_ | refine blk_alloc ?_ _)); refine blk_put (cs := #[.slice none 0 0, .int .i64 x127001_6]) ?_ 0 _ rfl; (with_reducible repeat (first | refine blk_drewN ?_ _ | refine blk_drew ?_ | refine blk_alloc ?_ _)); exact BK126.out) Try.underlying128 rfl (by kernel_rfl)) rfl ?_
           exact ⟨_, by first | rfl | (simp [errW_none, errW_some] <;> rfl) | (simp [*, errW_none, errW_some] <;> rfl), by (with_reducible repeat (first | apply Kd.R_alloc | apply Kd.R_drewN | apply Kd.R_drew)); exact Kd.R_mono (Kd.R_far (p := ⟨gb126, 1, none⟩) (Kd.R_far (p := ⟨gb126, 0, none⟩) (Kd.R_types HO_131000.out BK126.out (by decide)) (fun _ hk => hk.2) (.slice Ao153 x131000_6.length co153)) (fun _ hk => hk.2) (.int .i64 x131001_6)) (fun _ hk => trivial), by repeat (first | (with_reducible first | exact HB.out | apply below_alloc | apply pw_below_drewN | apply below_drew1 | refine below_set ?_ GE125.out | refine below_set ?_ GE126.out | refine below_set ?_ GE130.out) | exact HB.out)⟩
   · rw [if_neg c6] at H
     exact absurd H (by simp)
 · rw [if_neg c5] at H
   exact absurd H (by simp)
end Go.Proofs.Ytmoiickbgokloaa.PA
