/- Walk: the law ProveMore. -/
import Derived.Test.YtmoiickbgokloaaPAx7
import Derived.Test.YtmoiickbgokloaaSb
namespace Go.Proofs.Ytmoiickbgokloaa.PA
open Go.RowKit Go.Proofs.YtmoiickbgokloaaW.PrintWords Go.Proofs.YtmoiickbgokloaaW.PrintLast Go.Proofs.YtmoiickbgokloaaW.PrintMore Go.Proofs.Ytmoiickbgokloaa.Utv
set_option linter.unusedVariables false
set_option linter.unusedSimpArgs false

set_option maxRecDepth 100000 in
set_option maxHeartbeats 1000000 in
theorem lright_calls (n : Int) (A : Option Addr) (c : Nat) (l : List S24) (w : World) (hr : Kd.C k24 w A l.length l) (hc : l.length ≤ c) :
    Calls Try.prog 22 #[.int .i64 n, .slice A l.length c] w fun e w' => e = .returned (.bool (checkE n l == 0)) ∧ Below w.heap.size w w' := by
  have HL := Aside0.mk hr
  clear hr
  by_cases hl : l.length ≤ 40
  · have hd : decide ((l.length : Int) ≤ 40) = true := decide_eq_true (by omega)
    go_enter Try.func22, Try.ntmps22
    go_wp2_with (go_at_call 31; refine (check_calls n A c l _ HL.out hc).mono ?_; rintro e w1 ⟨rfl, hb1⟩; have HB1 := Aside0.mk hb1; clear hb1)
    go_ret
    exact ⟨rfl, HB1.out⟩
  · have hd : decide ((l.length : Int) ≤ 40) = false := decide_eq_false (by omega)
    have hk : (checkE n l == 0) = false := by
      rw [beq_eq_false_iff_ne]; intro h; have := (check_ok h).2.2.1; omega
    rw [hk]
    clear hk
    go_enter Try.func22, Try.ntmps22
    go_wp2_with fail
    go_ret
    exact ⟨rfl, Below.refl _ _⟩

theorem with_ok (l : List S24) (a : S24) (hl : l.length ≤ 100) : cosignerlaw12_with.f l a.f0 a.f1 a.f2 a.f3 a.f4 = some (l ++ [a]) := by
  unfold cosignerlaw12_with.f
  simp only [Option.bind_some, List.length_nil, List.nil_append, List.length_cons]
  rw [if_pos (by omega), if_pos (by omega)]

theorem check_app {n : Int} {l : List S24} {a : S24} (h : checkE n l = 0) (hl : l.length ≤ 39) (ha : rightB n a = true) : checkE n (l ++ [a]) = 0 := by
  obtain ⟨h1, h2, h3, h4⟩ := check_ok h
  refine ok_check h1 h2 (by simp; omega) (fun x hx => ?_)
  rcases List.mem_append.1 hx with hx | hx
  · exact h4 x hx
  · simp at hx; subst hx; exact rt_of_right ha
theorem two_right {n : Int} {a b : S24} (h : checkE n [a, b] = 0) : rightB n a = true ∧ rightB n b = true := by
  obtain ⟨_, _, _, h4⟩ := check_ok h
  exact ⟨right_of_rt (h4 a (by simp)), right_of_rt (h4 b (by simp))⟩

/-! The plain law. -/
theorem Sat.left {l m : List S24} {x : Nat → Int} (h : Sat (l ++ m) x) : Sat l x := ((sat_app l m x).1 h).1
theorem sat_less {l m : List S24} (h : satB (l ++ m) = true) : satB l = true := by
  obtain ⟨x, hx⟩ := satB_iff.1 h
  exact satB_iff.2 ⟨x, Sat.left hx⟩
theorem ent_more {l m : List S24} {b : S24} (h : entB l b = true) : entB (l ++ m) b = true := entB_iff.2 fun x hx => entB_iff.1 h x (Sat.left hx)

theorem top_more {l m : List S24} {b : S24} (h1 : ∃ v, Top l b v) (h2 : ∃ v, Top (l ++ m) b v) (hf : topV l b ≠ 1152921504606846976) : topV (l ++ m) b ≠ 1152921504606846976 ∧ topV (l ++ m) b ≤ topV l b := by
  obtain ⟨v, hv⟩ := h1
  obtain ⟨u, hu⟩ := h2
  rw [topV_eq hv] at hf ⊢
  rw [topV_eq hu]
  rcases hv with ⟨e, _⟩ | ⟨_, b1, b2, hv, _⟩
  · exact (hf (e.trans far_def)).elim
  · rcases hu with ⟨e, hM⟩ | ⟨e, c1, c2, hu, x, hx, hxv⟩
    · obtain ⟨x, hx, hxM⟩ := hM (v + 1)
      have := hv x (Sat.left hx)
      omega
    · have := hv x (Sat.left hx)
      rw [far_def] at e
      exact ⟨e, by omega⟩
set_option maxRecDepth 100000 in
set_option maxHeartbeats 2000000 in
theorem more_A (n : Int) (A : Option Addr) (c : Nat) (l : List S24) (a b : S24) (w : World) (hr : Kd.C k24 w A l.length l) (hc : l.length ≤ c) (hk : (checkE n l == 0) = false) :
    Calls Try.prog 4 #[.int .i64 n, .slice A l.length c, .agg #[.int .i64 a.f0, .int .i64 a.f1, .int .i64 a.f2, .int .i64 a.f3, .int .i64 a.f4], .agg #[.int .i64 b.f0, .int .i64 b.f1, .int .i64 b.f2, .int .i64 b.f3, .int .i64 b.f4]] w fun e w' => e = .returned (.bool true) ∧ Below w.heap.size w w' := by
  have hu24 := Try.underlying24
  have hb0 := ((Below.refl _ w).alloc (Nat.le_refl _) (.cells #[.int .i64 a.f0, .int .i64 a.f1, .int .i64 a.f2, .int .i64 a.f3, .int .i64 a.f4] 24)).alloc (by simp) (.cells #[.int .i64 b.f0, .int .i64 b.f1, .int .i64 b.f2, .int .i64 b.f3, .int .i64 b.f4] 24)
  have HC := Aside0.mk (Kd.C_below hr hb0)
  have HB := Aside0.mk hb0
  have HXA := Aside0.mk (heap2_0 w (.cells #[.int .i64 a.f0, .int .i64 a.f1, .int .i64 a.f2, .int .i64 a.f3, .int .i64 a.f4] 24) (.cells #[.int .i64 b.f0, .int .i64 b.f1, .int .i64 b.f2, .int .i64 b.f3, .int .i64 b.f4] 24))
  have HXB := Aside0.mk (heap2_1 w (.cells #[.int .i64 a.f0, .int .i64 a.f1, .int .i64 a.f2, .int .i64 a.f3, .int .i64 a.f4] 24) (.cells #[.int .i64 b.f0, .int .i64 b.f1, .int .i64 b.f2, .int .i64 b.f3, .int .i64 b.f4] 24))
  clear hr hb0
  have HK := Aside0.mk hk
  clear hk
  go_enter Try.func4, Try.ntmps4
  go_upto_region 1 with (fail)
  generalize ((w.alloc (.cells #[.int .i64 a.f0, .int .i64 a.f1, .int .i64 a.f2, .int .i64 a.f3, .int .i64 a.f4] 24)).alloc (.cells #[.int .i64 b.f0, .int .i64 b.f1, .int .i64 b.f2, .int .i64 b.f3, .int .i64 b.f4] 24)) = w0 at *
  go_wp2_with (first | (go_at_call 22; refine (lright_calls n A c l _ HC.out hc).mono ?_; rw [HK.out]; rintro e wr ⟨rfl, hb⟩; have n0_ := Aside0.mk (below_step HB.out hb); clear HB; have HB := n0_; clear n0_; have n1_ := Aside0.mk (Kd.C_below HC.out hb); clear HC; have HC := n1_; clear n1_; clear hb) | (go_at_call 17; refine (sanity_calls _).mono ?_; rintro e wz ⟨rfl, hb⟩; have n0_ := Aside0.mk (below_step HB.out hb); clear HB; have HB := n0_; clear n0_; clear hb))
  go_ret
  exact ⟨rfl, HB.out⟩
set_option maxRecDepth 100000 in
set_option maxHeartbeats 2000000 in
theorem more_B (n : Int) (A : Option Addr) (c : Nat) (l : List S24) (a b : S24) (w : World) (hr : Kd.C k24 w A l.length l) (hc : l.length ≤ c) (hk : (checkE n l == 0) = true) (h39 : ¬ l.length ≤ 39) :
    Calls Try.prog 4 #[.int .i64 n, .slice A l.length c, .agg #[.int .i64 a.f0, .int .i64 a.f1, .int .i64 a.f2, .int .i64 a.f3, .int .i64 a.f4], .agg #[.int .i64 b.f0, .int .i64 b.f1, .int .i64 b.f2, .int .i64 b.f3, .int .i64 b.f4]] w fun e w' => e = .returned (.bool true) ∧ Below w.heap.size w w' := by
  have hu24 := Try.underlying24
  have hb0 := ((Below.refl _ w).alloc (Nat.le_refl _) (.cells #[.int .i64 a.f0, .int .i64 a.f1, .int .i64 a.f2, .int .i64 a.f3, .int .i64 a.f4] 24)).alloc (by simp) (.cells #[.int .i64 b.f0, .int .i64 b.f1, .int .i64 b.f2, .int .i64 b.f3, .int .i64 b.f4] 24)
  have HC := Aside0.mk (Kd.C_below hr hb0)
  have HB := Aside0.mk hb0
  have HXA := Aside0.mk (heap2_0 w (.cells #[.int .i64 a.f0, .int .i64 a.f1, .int .i64 a.f2, .int .i64 a.f3, .int .i64 a.f4] 24) (.cells #[.int .i64 b.f0, .int .i64 b.f1, .int .i64 b.f2, .int .i64 b.f3, .int .i64 b.f4] 24))
  have HXB := Aside0.mk (heap2_1 w (.cells #[.int .i64 a.f0, .int .i64 a.f1, .int .i64 a.f2, .int .i64 a.f3, .int .i64 a.f4] 24) (.cells #[.int .i64 b.f0, .int .i64 b.f1, .int .i64 b.f2, .int .i64 b.f3, .int .i64 b.f4] 24))
  clear hr hb0
  have HK := Aside0.mk hk
  have hd : decide ((l.length : Int) > 39) = true := decide_eq_true (by omega)
  clear hk
  go_enter Try.func4, Try.ntmps4
  go_upto_region 1 with (fail)
  generalize ((w.alloc (.cells #[.int .i64 a.f0, .int .i64 a.f1, .int .i64 a.f2, .int .i64 a.f3, .int .i64 a.f4] 24)).alloc (.cells #[.int .i64 b.f0, .int .i64 b.f1, .int .i64 b.f2, .int .i64 b.f3, .int .i64 b.f4] 24)) = w0 at *
  go_wp2_with (first | (go_at_call 22; refine (lright_calls n A c l _ HC.out hc).mono ?_; rw [HK.out]; rintro e wr ⟨rfl, hb⟩; have n0_ := Aside0.mk (below_step HB.out hb); clear HB; have HB := n0_; clear n0_; have n1_ := Aside0.mk (Kd.C_below HC.out hb); clear HC; have HC := n1_; clear n1_; clear hb) | (go_at_call 17; refine (sanity_calls _).mono ?_; rintro e wz ⟨rfl, hb⟩; have n0_ := Aside0.mk (below_step HB.out hb); clear HB; have HB := n0_; clear n0_; clear hb))
  go_ret
  exact ⟨rfl, HB.out⟩

theorem pair24 (W : World) (a b : S24) : Kd.C k24 (W.alloc (.cells #[.int .i64 a.f0, .int .i64 a.f1, .int .i64 a.f2, .int .i64 a.f3, .int .i64 a.f4, .int .i64 b.f0, .int .i64 b.f1, .int .i64 b.f2, .int .i64 b.f3, .int .i64 b.f4] 24)) (some ⟨W.heap.size, 0, none⟩) [a, b].length [a, b] := by
  have ho := World.ownsRow_lit (base := W.heap.size) (e := 24) (size := 5) W #[.int .i64 a.f0, .int .i64 a.f1, .int .i64 a.f2, .int .i64 a.f3, .int .i64 a.f4, .int .i64 b.f0, .int .i64 b.f1, .int .i64 b.f2, .int .i64 b.f3, .int .i64 b.f4] 2 (Nat.le_refl _) (by simp [maxLen]) (by rfl)
  have hR : Kd.R k24 24 (W.alloc (.cells #[.int .i64 a.f0, .int .i64 a.f1, .int .i64 a.f2, .int .i64 a.f3, .int .i64 a.f4, .int .i64 b.f0, .int .i64 b.f1, .int .i64 b.f2, .int .i64 b.f3, .int .i64 b.f4] 24)) W.heap.size (fun _ => True) (.slice (some ⟨W.heap.size, 0, none⟩) [a, b].length 2) [a, b] :=
    ⟨fun _ _ => trivial, [.int .i64 a.f0, .int .i64 a.f1, .int .i64 a.f2, .int .i64 a.f3, .int .i64 a.f4, .int .i64 b.f0, .int .i64 b.f1, .int .i64 b.f2, .int .i64 b.f3, .int .i64 b.f4], ho, Reps.c5 (k24_mkM _ _ _ a) (Reps.c5 (k24_mkM _ _ _ b) (Reps.none _ _))⟩
  obtain ⟨A, c, he, _, hC⟩ := Kd.R_reads hR
  injection he with x y z
  rw [← x] at hC
  exact hC
set_option maxRecDepth 100000 in
set_option maxHeartbeats 2000000 in
theorem more_C (n : Int) (A : Option Addr) (c : Nat) (l : List S24) (a b : S24) (w : World) (hr : Kd.C k24 w A l.length l) (hc : l.length ≤ c) (hk : (checkE n l == 0) = true) (h39 : l.length ≤ 39) (hk2 : (checkE n [a, b] == 0) = false) :
    Calls Try.prog 4 #[.int .i64 n, .slice A l.length c, .agg #[.int .i64 a.f0, .int .i64 a.f1, .int .i64 a.f2, .int .i64 a.f3, .int .i64 a.f4], .agg #[.int .i64 b.f0, .int .i64 b.f1, .int .i64 b.f2, .int .i64 b.f3, .int .i64 b.f4]] w fun e w' => e = .returned (.bool true) ∧ Below w.heap.size w w' := by
  have hu24 := Try.underlying24
  have hb0 := ((Below.refl _ w).alloc (Nat.le_refl _) (.cells #[.int .i64 a.f0, .int .i64 a.f1, .int .i64 a.f2, .int .i64 a.f3, .int .i64 a.f4] 24)).alloc (by simp) (.cells #[.int .i64 b.f0, .int .i64 b.f1, .int .i64 b.f2, .int .i64 b.f3, .int .i64 b.f4] 24)
  have HC := Aside0.mk (Kd.C_below hr hb0)
  have HB := Aside0.mk hb0
  have HXA := Aside0.mk (heap2_0 w (.cells #[.int .i64 a.f0, .int .i64 a.f1, .int .i64 a.f2, .int .i64 a.f3, .int .i64 a.f4] 24) (.cells #[.int .i64 b.f0, .int .i64 b.f1, .int .i64 b.f2, .int .i64 b.f3, .int .i64 b.f4] 24))
  have HXB := Aside0.mk (heap2_1 w (.cells #[.int .i64 a.f0, .int .i64 a.f1, .int .i64 a.f2, .int .i64 a.f3, .int .i64 a.f4] 24) (.cells #[.int .i64 b.f0, .int .i64 b.f1, .int .i64 b.f2, .int .i64 b.f3, .int .i64 b.f4] 24))
  clear hr hb0
  have HK := Aside0.mk hk
  have HK2 := Aside0.mk hk2
  have hd : decide ((l.length : Int) > 39) = false := decide_eq_false (by omega)
  clear hk hk2
  go_enter Try.func4, Try.ntmps4
  go_upto_region 1 with (fail)
  generalize ((w.alloc (.cells #[.int .i64 a.f0, .int .i64 a.f1, .int .i64 a.f2, .int .i64 a.f3, .int .i64 a.f4] 24)).alloc (.cells #[.int .i64 b.f0, .int .i64 b.f1, .int .i64 b.f2, .int .i64 b.f3, .int .i64 b.f4] 24)) = w0 at *
  go_wp2_with (first | (go_at_call 22; (with_reducible refine (lright_calls n A c l _ HC.out hc).mono ?_); rw [HK.out]; rintro e wr ⟨rfl, hb⟩; have n0_ := Aside0.mk (below_step HB.out hb); clear HB; have HB := n0_; clear n0_; have n1_ := Aside0.mk (Kd.C_below HC.out hb); clear HC; have HC := n1_; clear n1_; have n1_ := Aside0.mk (blk_below HXA.out hb); clear HXA; have HXA := n1_; clear n1_; have n1_ := Aside0.mk (blk_below HXB.out hb); clear HXB; have HXB := n1_; clear n1_; clear hb; have hxa := HXA.out; have hxb := HXB.out; have x0 : wr.cell? ⟨w.heap.size, 0, none⟩ = some (.int .i64 a.f0) := (cell_of hxa 0).trans rfl; have x1 : wr.cell? ⟨w.heap.size, 1, none⟩ = some (.int .i64 a.f1) := (cell_of hxa 1).trans rfl; have x2 : wr.cell? ⟨w.heap.size, 2, none⟩ = some (.int .i64 a.f2) := (cell_of hxa 2).trans rfl; have x3 : wr.cell? ⟨w.heap.size, 3, none⟩ = some (.int .i64 a.f3) := (cell_of hxa 3).trans rfl; have x4 : wr.cell? ⟨w.heap.size, 4, none⟩ = some (.int .i64 a.f4) := (cell_of hxa 4).trans rfl; have y0 : wr.cell? ⟨w.heap.size + 1, 0, none⟩ = some (.int .i64 b.f0) := (cell_of hxb 0).trans rfl; have y1 : wr.cell? ⟨w.heap.size + 1, 1, none⟩ = some (.int .i64 b.f1) := (cell_of hxb 1).trans rfl; have y2 : wr.cell? ⟨w.heap.size + 1, 2, none⟩ = some (.int .i64 b.f2) := (cell_of hxb 2).trans rfl; have y3 : wr.cell? ⟨w.heap.size + 1, 3, none⟩ = some (.int .i64 b.f3) := (cell_of hxb 3).trans rfl; have y4 : wr.cell? ⟨w.heap.size + 1, 4, none⟩ = some (.int .i64 b.f4) := (cell_of hxb 4).trans rfl; clear hxa hxb) | (go_at_call 22; refine (lright_calls n _ 2 [a, b] _ (pair24 _ a b) (by simp)).mono ?_; rw [HK2.out]; rintro e wr2 ⟨rfl, hb2⟩; have hb := below_step ((Below.refl _ _).alloc (Nat.le_refl _) (.cells #[.int .i64 a.f0, .int .i64 a.f1, .int .i64 a.f2, .int .i64 a.f3, .int .i64 a.f4, .int .i64 b.f0, .int .i64 b.f1, .int .i64 b.f2, .int .i64 b.f3, .int .i64 b.f4] 24)) hb2; have n0_ := Aside0.mk (below_step HB.out hb); clear HB; have HB := n0_; clear n0_; clear hb hb2) | (go_at_call 17; refine (sanity_calls _).mono ?_; rintro e wz ⟨rfl, hb⟩; have n0_ := Aside0.mk (below_step HB.out hb); clear HB; have HB := n0_; clear n0_; clear hb))
  go_ret
  exact ⟨rfl, HB.out⟩
set_option maxRecDepth 100000 in
set_option maxHeartbeats 2000000 in
theorem more_D (n : Int) (A : Option Addr) (c : Nat) (l : List S24) (a b : S24) (w : World) (hr : Kd.C k24 w A l.length l) (hc : l.length ≤ c) (hk : (checkE n l == 0) = true) (h39 : l.length ≤ 39) (hk2 : (checkE n [a, b] == 0) = true) (M : List S24) (hw : cosignerlaw12_with.f l a.f0 a.f1 a.f2 a.f3 a.f4 = some M) (is still one two : Bool) (m g k h : Int) (P1 P2 : Prop)
    (HPl : Aside0 (∀ (W : World) (A : Option Addr) (c : Nat), Kd.C k24 W A l.length l → l.length ≤ c → Calls Try.prog 24 #[.int .i64 n, .slice A l.length c] W fun e w' => e = .returned (.tuple #[.bool is, .int .i64 0]) ∧ Below W.heap.size W w')) (HPm : Aside0 (∀ (W : World) (A : Option Addr) (c : Nat), Kd.C k24 W A M.length M → M.length ≤ c → Calls Try.prog 24 #[.int .i64 n, .slice A M.length c] W fun e w' => e = .returned (.tuple #[.bool still, .int .i64 0]) ∧ Below W.heap.size W w')) (HMl : Aside0 (∀ (W : World) (A : Option Addr) (c : Nat), Kd.C k24 W A l.length l → l.length ≤ c → Calls Try.prog 18 #[.int .i64 n, .slice A l.length c, .agg #[.int .i64 b.f0, .int .i64 b.f1, .int .i64 b.f2, .int .i64 b.f3, .int .i64 b.f4]] W fun e w' => e = .returned (.tuple #[.int .i64 m, .int .i64 g]) ∧ Below W.heap.size W w' ∧ P1)) (HMm : Aside0 (∀ (W : World) (A : Option Addr) (c : Nat), Kd.C k24 W A M.length M → M.length ≤ c → Calls Try.prog 18 #[.int .i64 n, .slice A M.length c, .agg #[.int .i64 b.f0, .int .i64 b.f1, .int .i64 b.f2, .int .i64 b.f3, .int .i64 b.f4]] W fun e w' => e = .returned (.tuple #[.int .i64 k, .int .i64 h]) ∧ Below W.heap.size W w' ∧ P2)) (HEl : Aside0 (∀ (W : World) (A : Option Addr) (c : Nat), Kd.C k24 W A l.length l → l.length ≤ c → Calls Try.prog 25 #[.int .i64 n, .slice A l.length c, .agg #[.int .i64 b.f0, .int .i64 b.f1, .int .i64 b.f2, .int .i64 b.f3, .int .i64 b.f4]] W fun e w' => e = .returned (.tuple #[.bool one, .int .i64 0]) ∧ Below W.heap.size W w')) (HEm : Aside0 (∀ (W : World) (A : Option Addr) (c : Nat), Kd.C k24 W A M.length M → M.length ≤ c → Calls Try.prog 25 #[.int .i64 n, .slice A M.length c, .agg #[.int .i64 b.f0, .int .i64 b.f1, .int .i64 b.f2, .int .i64 b.f3, .int .i64 b.f4]] W fun e w' => e = .returned (.tuple #[.bool two, .int .i64 0]) ∧ Below W.heap.size W w'))
    (f1 : still = true → is = true) (f2 : one = true → two = true) (f3 : P1 → P2 → still = true → g = 0 → h = 0 ∧ k ≤ m) :
    Calls Try.prog 4 #[.int .i64 n, .slice A l.length c, .agg #[.int .i64 a.f0, .int .i64 a.f1, .int .i64 a.f2, .int .i64 a.f3, .int .i64 a.f4], .agg #[.int .i64 b.f0, .int .i64 b.f1, .int .i64 b.f2, .int .i64 b.f3, .int .i64 b.f4]] w fun e w' => e = .returned (.bool true) ∧ Below w.heap.size w w' := by
  have hu24 := Try.underlying24
  have hb0 := ((Below.refl _ w).alloc (Nat.le_refl _) (.cells #[.int .i64 a.f0, .int .i64 a.f1, .int .i64 a.f2, .int .i64 a.f3, .int .i64 a.f4] 24)).alloc (by simp) (.cells #[.int .i64 b.f0, .int .i64 b.f1, .int .i64 b.f2, .int .i64 b.f3, .int .i64 b.f4] 24)
  have HC := Aside0.mk (Kd.C_below hr hb0)
  have HB := Aside0.mk hb0
  have HXA := Aside0.mk (heap2_0 w (.cells #[.int .i64 a.f0, .int .i64 a.f1, .int .i64 a.f2, .int .i64 a.f3, .int .i64 a.f4] 24) (.cells #[.int .i64 b.f0, .int .i64 b.f1, .int .i64 b.f2, .int .i64 b.f3, .int .i64 b.f4] 24))
  have HXB := Aside0.mk (heap2_1 w (.cells #[.int .i64 a.f0, .int .i64 a.f1, .int .i64 a.f2, .int .i64 a.f3, .int .i64 a.f4] 24) (.cells #[.int .i64 b.f0, .int .i64 b.f1, .int .i64 b.f2, .int .i64 b.f3, .int .i64 b.f4] 24))
  clear hr hb0
  have HK := Aside0.mk hk
  have HK2 := Aside0.mk hk2
  have HW := Aside0.mk hw
  have F1 := Aside0.mk f1
  have F2 := Aside0.mk f2
  have F3 := Aside0.mk f3
  have hd : decide ((l.length : Int) > 39) = false := decide_eq_false (by omega)
  clear hk hk2 hw f1 f2 f3
  go_enter Try.func4, Try.ntmps4
  go_upto_region 1 with (fail)
  generalize ((w.alloc (.cells #[.int .i64 a.f0, .int .i64 a.f1, .int .i64 a.f2, .int .i64 a.f3, .int .i64 a.f4] 24)).alloc (.cells #[.int .i64 b.f0, .int .i64 b.f1, .int .i64 b.f2, .int .i64 b.f3, .int .i64 b.f4] 24)) = w0 at *
  go_upto_region 3 with (first | (go_at_call 22; (with_reducible refine (lright_calls n A c l _ HC.out hc).mono ?_); rw [HK.out]; rintro e wr ⟨rfl, hb⟩; have n0_ := Aside0.mk (below_step HB.out hb); clear HB; have HB := n0_; clear n0_; have n1_ := Aside0.mk (Kd.C_below HC.out hb); clear HC; have HC := n1_; clear n1_; have n1_ := Aside0.mk (blk_below HXA.out hb); clear HXA; have HXA := n1_; clear n1_; have n1_ := Aside0.mk (blk_below HXB.out hb); clear HXB; have HXB := n1_; clear n1_; clear hb; have hxa := HXA.out; have hxb := HXB.out; have x0 : wr.cell? ⟨w.heap.size, 0, none⟩ = some (.int .i64 a.f0) := (cell_of hxa 0).trans rfl; have x1 : wr.cell? ⟨w.heap.size, 1, none⟩ = some (.int .i64 a.f1) := (cell_of hxa 1).trans rfl; have x2 : wr.cell? ⟨w.heap.size, 2, none⟩ = some (.int .i64 a.f2) := (cell_of hxa 2).trans rfl; have x3 : wr.cell? ⟨w.heap.size, 3, none⟩ = some (.int .i64 a.f3) := (cell_of hxa 3).trans rfl; have x4 : wr.cell? ⟨w.heap.size, 4, none⟩ = some (.int .i64 a.f4) := (cell_of hxa 4).trans rfl; have y0 : wr.cell? ⟨w.heap.size + 1, 0, none⟩ = some (.int .i64 b.f0) := (cell_of hxb 0).trans rfl; have y1 : wr.cell? ⟨w.heap.size + 1, 1, none⟩ = some (.int .i64 b.f1) := (cell_of hxb 1).trans rfl; have y2 : wr.cell? ⟨w.heap.size + 1, 2, none⟩ = some (.int .i64 b.f2) := (cell_of hxb 2).trans rfl; have y3 : wr.cell? ⟨w.heap.size + 1, 3, none⟩ = some (.int .i64 b.f3) := (cell_of hxb 3).trans rfl; have y4 : wr.cell? ⟨w.heap.size + 1, 4, none⟩ = some (.int .i64 b.f4) := (cell_of hxb 4).trans rfl; clear hxa hxb) | (go_at_call 22; refine (lright_calls n _ 2 [a, b] _ (pair24 _ a b) (by simp)).mono ?_; rw [HK2.out]; rintro e wr2 ⟨rfl, hb2⟩; have hb := below_step ((Below.refl _ _).alloc (Nat.le_refl _) (.cells #[.int .i64 a.f0, .int .i64 a.f1, .int .i64 a.f2, .int .i64 a.f3, .int .i64 a.f4, .int .i64 b.f0, .int .i64 b.f1, .int .i64 b.f2, .int .i64 b.f3, .int .i64 b.f4] 24)) hb2; have n0_ := Aside0.mk (below_step HB.out hb); clear HB; have HB := n0_; clear n0_; have n1_ := Aside0.mk (Kd.C_below HC.out hb); clear HC; have HC := n1_; clear n1_; have n1_ := Aside0.mk (blk_below HXA.out hb); clear HXA; have HXA := n1_; clear n1_; have n1_ := Aside0.mk (blk_below HXB.out hb); clear HXB; have HXB := n1_; clear n1_; clear x0 x1 x2 x3 x4 y0 y1 y2 y3 y4; have hxa := HXA.out; have hxb := HXB.out; have x0 : wr2.cell? ⟨w.heap.size, 0, none⟩ = some (.int .i64 a.f0) := (cell_of hxa 0).trans rfl; have x1 : wr2.cell? ⟨w.heap.size, 1, none⟩ = some (.int .i64 a.f1) := (cell_of hxa 1).trans rfl; have x2 : wr2.cell? ⟨w.heap.size, 2, none⟩ = some (.int .i64 a.f2) := (cell_of hxa 2).trans rfl; have x3 : wr2.cell? ⟨w.heap.size, 3, none⟩ = some (.int .i64 a.f3) := (cell_of hxa 3).trans rfl; have x4 : wr2.cell? ⟨w.heap.size, 4, none⟩ = some (.int .i64 a.f4) := (cell_of hxa 4).trans rfl; have y0 : wr2.cell? ⟨w.heap.size + 1, 0, none⟩ = some (.int .i64 b.f0) := (cell_of hxb 0).trans rfl; have y1 : wr2.cell? ⟨w.heap.size + 1, 1, none⟩ = some (.int .i64 b.f1) := (cell_of hxb 1).trans rfl; have y2 : wr2.cell? ⟨w.heap.size + 1, 2, none⟩ = some (.int .i64 b.f2) := (cell_of hxb 2).trans rfl; have y3 : wr2.cell? ⟨w.heap.size + 1, 3, none⟩ = some (.int .i64 b.f3) := (cell_of hxb 3).trans rfl; have y4 : wr2.cell? ⟨w.heap.size + 1, 4, none⟩ = some (.int .i64 b.f4) := (cell_of hxb 4).trans rfl; clear hxa hxb; clear hb hb2))
  go_upto_region 10 with (first | (go_at_call 23; refine (cosignerlaw12_with.calls A c l a.f0 a.f1 a.f2 a.f3 a.f4 M _ HC.out hc HW.out).mono ?_; rintro e ww ⟨vm, rfl, hR, hb⟩; obtain ⟨AM, cM, rfl, hcM, hCM⟩ := Kd.R_reads hR; have HM := Aside0.mk hCM; have n0_ := Aside0.mk (below_step HB.out hb); clear HB; have HB := n0_; clear n0_; have n1_ := Aside0.mk (Kd.C_below HC.out hb); clear HC; have HC := n1_; clear n1_; have n1_ := Aside0.mk (blk_below HXA.out hb); clear HXA; have HXA := n1_; clear n1_; have n1_ := Aside0.mk (blk_below HXB.out hb); clear HXB; have HXB := n1_; clear n1_; clear hb hR hCM; clear x0 x1 x2 x3 x4 y0 y1 y2 y3 y4; have hxa := HXA.out; have hxb := HXB.out; have x0 : ww.cell? ⟨w.heap.size, 0, none⟩ = some (.int .i64 a.f0) := (cell_of hxa 0).trans rfl; have x1 : ww.cell? ⟨w.heap.size, 1, none⟩ = some (.int .i64 a.f1) := (cell_of hxa 1).trans rfl; have x2 : ww.cell? ⟨w.heap.size, 2, none⟩ = some (.int .i64 a.f2) := (cell_of hxa 2).trans rfl; have x3 : ww.cell? ⟨w.heap.size, 3, none⟩ = some (.int .i64 a.f3) := (cell_of hxa 3).trans rfl; have x4 : ww.cell? ⟨w.heap.size, 4, none⟩ = some (.int .i64 a.f4) := (cell_of hxa 4).trans rfl; have y0 : ww.cell? ⟨w.heap.size + 1, 0, none⟩ = some (.int .i64 b.f0) := (cell_of hxb 0).trans rfl; have y1 : ww.cell? ⟨w.heap.size + 1, 1, none⟩ = some (.int .i64 b.f1) := (cell_of hxb 1).trans rfl; have y2 : ww.cell? ⟨w.heap.size + 1, 2, none⟩ = some (.int .i64 b.f2) := (cell_of hxb 2).trans rfl; have y3 : ww.cell? ⟨w.heap.size + 1, 3, none⟩ = some (.int .i64 b.f3) := (cell_of hxb 3).trans rfl; have y4 : ww.cell? ⟨w.heap.size + 1, 4, none⟩ = some (.int .i64 b.f4) := (cell_of hxb 4).trans rfl; clear hxa hxb) | (go_at_call 24; first | ((with_reducible refine (HPl.out _ _ _ HC.out hc).mono ?_); rintro e wx ⟨rfl, hb⟩; have n0_ := Aside0.mk (below_step HB.out hb); clear HB; have HB := n0_; clear n0_; have n1_ := Aside0.mk (Kd.C_below HC.out hb); clear HC; have HC := n1_; clear n1_; have n1_ := Aside0.mk (Kd.C_below HM.out hb); clear HM; have HM := n1_; clear n1_; have n1_ := Aside0.mk (blk_below HXA.out hb); clear HXA; have HXA := n1_; clear n1_; have n1_ := Aside0.mk (blk_below HXB.out hb); clear HXB; have HXB := n1_; clear n1_; clear hb; clear x0 x1 x2 x3 x4 y0 y1 y2 y3 y4; have hxa := HXA.out; have hxb := HXB.out; have x0 : wx.cell? ⟨w.heap.size, 0, none⟩ = some (.int .i64 a.f0) := (cell_of hxa 0).trans rfl; have x1 : wx.cell? ⟨w.heap.size, 1, none⟩ = some (.int .i64 a.f1) := (cell_of hxa 1).trans rfl; have x2 : wx.cell? ⟨w.heap.size, 2, none⟩ = some (.int .i64 a.f2) := (cell_of hxa 2).trans rfl; have x3 : wx.cell? ⟨w.heap.size, 3, none⟩ = some (.int .i64 a.f3) := (cell_of hxa 3).trans rfl; have x4 : wx.cell? ⟨w.heap.size, 4, none⟩ = some (.int .i64 a.f4) := (cell_of hxa 4).trans rfl; have y0 : wx.cell? ⟨w.heap.size + 1, 0, none⟩ = some (.int .i64 b.f0) := (cell_of hxb 0).trans rfl; have y1 : wx.cell? ⟨w.heap.size + 1, 1, none⟩ = some (.int .i64 b.f1) := (cell_of hxb 1).trans rfl; have y2 : wx.cell? ⟨w.heap.size + 1, 2, none⟩ = some (.int .i64 b.f2) := (cell_of hxb 2).trans rfl; have y3 : wx.cell? ⟨w.heap.size + 1, 3, none⟩ = some (.int .i64 b.f3) := (cell_of hxb 3).trans rfl; have y4 : wx.cell? ⟨w.heap.size + 1, 4, none⟩ = some (.int .i64 b.f4) := (cell_of hxb 4).trans rfl; clear hxa hxb) | ((with_reducible refine (HPm.out _ _ _ HM.out hcM).mono ?_); rintro e wx ⟨rfl, hb⟩; have n0_ := Aside0.mk (below_step HB.out hb); clear HB; have HB := n0_; clear n0_; have n1_ := Aside0.mk (Kd.C_below HC.out hb); clear HC; have HC := n1_; clear n1_; have n1_ := Aside0.mk (Kd.C_below HM.out hb); clear HM; have HM := n1_; clear n1_; have n1_ := Aside0.mk (blk_below HXA.out hb); clear HXA; have HXA := n1_; clear n1_; have n1_ := Aside0.mk (blk_below HXB.out hb); clear HXB; have HXB := n1_; clear n1_; clear hb; clear x0 x1 x2 x3 x4 y0 y1 y2 y3 y4; have hxa := HXA.out; have hxb := HXB.out; have x0 : wx.cell? ⟨w.heap.size, 0, none⟩ = some (.int .i64 a.f0) := (cell_of hxa 0).trans rfl; have x1 : wx.cell? ⟨w.heap.size, 1, none⟩ = some (.int .i64 a.f1) := (cell_of hxa 1).trans rfl; have x2 : wx.cell? ⟨w.heap.size, 2, none⟩ = some (.int .i64 a.f2) := (cell_of hxa 2).trans rfl; have x3 : wx.cell? ⟨w.heap.size, 3, none⟩ = some (.int .i64 a.f3) := (cell_of hxa 3).trans rfl; have x4 : wx.cell? ⟨w.heap.size, 4, none⟩ = some (.int .i64 a.f4) := (cell_of hxa 4).trans rfl; have y0 : wx.cell? ⟨w.heap.size + 1, 0, none⟩ = some (.int .i64 b.f0) := (cell_of hxb 0).trans rfl; have y1 : wx.cell? ⟨w.heap.size + 1, 1, none⟩ = some (.int .i64 b.f1) := (cell_of hxb 1).trans rfl; have y2 : wx.cell? ⟨w.heap.size + 1, 2, none⟩ = some (.int .i64 b.f2) := (cell_of hxb 2).trans rfl; have y3 : wx.cell? ⟨w.heap.size + 1, 3, none⟩ = some (.int .i64 b.f3) := (cell_of hxb 3).trans rfl; have y4 : wx.cell? ⟨w.heap.size + 1, 4, none⟩ = some (.int .i64 b.f4) := (cell_of hxb 4).trans rfl; clear hxa hxb)) | (go_at_call 18; first | ((with_reducible refine (HMl.out _ _ _ HC.out hc).mono ?_); rintro e wx ⟨rfl, hb, hp⟩; have HP1 := Aside0.mk hp; clear hp; have n0_ := Aside0.mk (below_step HB.out hb); clear HB; have HB := n0_; clear n0_; have n1_ := Aside0.mk (Kd.C_below HC.out hb); clear HC; have HC := n1_; clear n1_; have n1_ := Aside0.mk (Kd.C_below HM.out hb); clear HM; have HM := n1_; clear n1_; have n1_ := Aside0.mk (blk_below HXA.out hb); clear HXA; have HXA := n1_; clear n1_; have n1_ := Aside0.mk (blk_below HXB.out hb); clear HXB; have HXB := n1_; clear n1_; clear hb; clear x0 x1 x2 x3 x4 y0 y1 y2 y3 y4; have hxa := HXA.out; have hxb := HXB.out; have x0 : wx.cell? ⟨w.heap.size, 0, none⟩ = some (.int .i64 a.f0) := (cell_of hxa 0).trans rfl; have x1 : wx.cell? ⟨w.heap.size, 1, none⟩ = some (.int .i64 a.f1) := (cell_of hxa 1).trans rfl; have x2 : wx.cell? ⟨w.heap.size, 2, none⟩ = some (.int .i64 a.f2) := (cell_of hxa 2).trans rfl; have x3 : wx.cell? ⟨w.heap.size, 3, none⟩ = some (.int .i64 a.f3) := (cell_of hxa 3).trans rfl; have x4 : wx.cell? ⟨w.heap.size, 4, none⟩ = some (.int .i64 a.f4) := (cell_of hxa 4).trans rfl; have y0 : wx.cell? ⟨w.heap.size + 1, 0, none⟩ = some (.int .i64 b.f0) := (cell_of hxb 0).trans rfl; have y1 : wx.cell? ⟨w.heap.size + 1, 1, none⟩ = some (.int .i64 b.f1) := (cell_of hxb 1).trans rfl; have y2 : wx.cell? ⟨w.heap.size + 1, 2, none⟩ = some (.int .i64 b.f2) := (cell_of hxb 2).trans rfl; have y3 : wx.cell? ⟨w.heap.size + 1, 3, none⟩ = some (.int .i64 b.f3) := (cell_of hxb 3).trans rfl; have y4 : wx.cell? ⟨w.heap.size + 1, 4, none⟩ = some (.int .i64 b.f4) := (cell_of hxb 4).trans rfl; clear hxa hxb) | ((with_reducible refine (HMm.out _ _ _ HM.out hcM).mono ?_); rintro e wx ⟨rfl, hb, hp⟩; have HP2 := Aside0.mk hp; clear hp; have n0_ := Aside0.mk (below_step HB.out hb); clear HB; have HB := n0_; clear n0_; have n1_ := Aside0.mk (Kd.C_below HC.out hb); clear HC; have HC := n1_; clear n1_; have n1_ := Aside0.mk (Kd.C_below HM.out hb); clear HM; have HM := n1_; clear n1_; have n1_ := Aside0.mk (blk_below HXA.out hb); clear HXA; have HXA := n1_; clear n1_; have n1_ := Aside0.mk (blk_below HXB.out hb); clear HXB; have HXB := n1_; clear n1_; clear hb; clear x0 x1 x2 x3 x4 y0 y1 y2 y3 y4; have hxa := HXA.out; have hxb := HXB.out; have x0 : wx.cell? ⟨w.heap.size, 0, none⟩ = some (.int .i64 a.f0) := (cell_of hxa 0).trans rfl; have x1 : wx.cell? ⟨w.heap.size, 1, none⟩ = some (.int .i64 a.f1) := (cell_of hxa 1).trans rfl; have x2 : wx.cell? ⟨w.heap.size, 2, none⟩ = some (.int .i64 a.f2) := (cell_of hxa 2).trans rfl; have x3 : wx.cell? ⟨w.heap.size, 3, none⟩ = some (.int .i64 a.f3) := (cell_of hxa 3).trans rfl; have x4 : wx.cell? ⟨w.heap.size, 4, none⟩ = some (.int .i64 a.f4) := (cell_of hxa 4).trans rfl; have y0 : wx.cell? ⟨w.heap.size + 1, 0, none⟩ = some (.int .i64 b.f0) := (cell_of hxb 0).trans rfl; have y1 : wx.cell? ⟨w.heap.size + 1, 1, none⟩ = some (.int .i64 b.f1) := (cell_of hxb 1).trans rfl; have y2 : wx.cell? ⟨w.heap.size + 1, 2, none⟩ = some (.int .i64 b.f2) := (cell_of hxb 2).trans rfl; have y3 : wx.cell? ⟨w.heap.size + 1, 3, none⟩ = some (.int .i64 b.f3) := (cell_of hxb 3).trans rfl; have y4 : wx.cell? ⟨w.heap.size + 1, 4, none⟩ = some (.int .i64 b.f4) := (cell_of hxb 4).trans rfl; clear hxa hxb)) | (go_at_call 25; first | ((with_reducible refine (HEl.out _ _ _ HC.out hc).mono ?_); rintro e wx ⟨rfl, hb⟩; have n0_ := Aside0.mk (below_step HB.out hb); clear HB; have HB := n0_; clear n0_; have n1_ := Aside0.mk (Kd.C_below HC.out hb); clear HC; have HC := n1_; clear n1_; have n1_ := Aside0.mk (Kd.C_below HM.out hb); clear HM; have HM := n1_; clear n1_; have n1_ := Aside0.mk (blk_below HXA.out hb); clear HXA; have HXA := n1_; clear n1_; have n1_ := Aside0.mk (blk_below HXB.out hb); clear HXB; have HXB := n1_; clear n1_; clear hb; clear x0 x1 x2 x3 x4 y0 y1 y2 y3 y4; have hxa := HXA.out; have hxb := HXB.out; have x0 : wx.cell? ⟨w.heap.size, 0, none⟩ = some (.int .i64 a.f0) := (cell_of hxa 0).trans rfl; have x1 : wx.cell? ⟨w.heap.size, 1, none⟩ = some (.int .i64 a.f1) := (cell_of hxa 1).trans rfl; have x2 : wx.cell? ⟨w.heap.size, 2, none⟩ = some (.int .i64 a.f2) := (cell_of hxa 2).trans rfl; have x3 : wx.cell? ⟨w.heap.size, 3, none⟩ = some (.int .i64 a.f3) := (cell_of hxa 3).trans rfl; have x4 : wx.cell? ⟨w.heap.size, 4, none⟩ = some (.int .i64 a.f4) := (cell_of hxa 4).trans rfl; have y0 : wx.cell? ⟨w.heap.size + 1, 0, none⟩ = some (.int .i64 b.f0) := (cell_of hxb 0).trans rfl; have y1 : wx.cell? ⟨w.heap.size + 1, 1, none⟩ = some (.int .i64 b.f1) := (cell_of hxb 1).trans rfl; have y2 : wx.cell? ⟨w.heap.size + 1, 2, none⟩ = some (.int .i64 b.f2) := (cell_of hxb 2).trans rfl; have y3 : wx.cell? ⟨w.heap.size + 1, 3, none⟩ = some (.int .i64 b.f3) := (cell_of hxb 3).trans rfl; have y4 : wx.cell? ⟨w.heap.size + 1, 4, none⟩ = some (.int .i64 b.f4) := (cell_of hxb 4).trans rfl; clear hxa hxb) | ((with_reducible refine (HEm.out _ _ _ HM.out hcM).mono ?_); rintro e wx ⟨rfl, hb⟩; have n0_ := Aside0.mk (below_step HB.out hb); clear HB; have HB := n0_; clear n0_; have n1_ := Aside0.mk (Kd.C_below HC.out hb); clear HC; have HC := n1_; clear n1_; have n1_ := Aside0.mk (Kd.C_below HM.out hb); clear HM; have HM := n1_; clear n1_; have n1_ := Aside0.mk (blk_below HXA.out hb); clear HXA; have HXA := n1_; clear n1_; have n1_ := Aside0.mk (blk_below HXB.out hb); clear HXB; have HXB := n1_; clear n1_; clear hb; clear x0 x1 x2 x3 x4 y0 y1 y2 y3 y4; have hxa := HXA.out; have hxb := HXB.out; have x0 : wx.cell? ⟨w.heap.size, 0, none⟩ = some (.int .i64 a.f0) := (cell_of hxa 0).trans rfl; have x1 : wx.cell? ⟨w.heap.size, 1, none⟩ = some (.int .i64 a.f1) := (cell_of hxa 1).trans rfl; have x2 : wx.cell? ⟨w.heap.size, 2, none⟩ = some (.int .i64 a.f2) := (cell_of hxa 2).trans rfl; have x3 : wx.cell? ⟨w.heap.size, 3, none⟩ = some (.int .i64 a.f3) := (cell_of hxa 3).trans rfl; have x4 : wx.cell? ⟨w.heap.size, 4, none⟩ = some (.int .i64 a.f4) := (cell_of hxa 4).trans rfl; have y0 : wx.cell? ⟨w.heap.size + 1, 0, none⟩ = some (.int .i64 b.f0) := (cell_of hxb 0).trans rfl; have y1 : wx.cell? ⟨w.heap.size + 1, 1, none⟩ = some (.int .i64 b.f1) := (cell_of hxb 1).trans rfl; have y2 : wx.cell? ⟨w.heap.size + 1, 2, none⟩ = some (.int .i64 b.f2) := (cell_of hxb 2).trans rfl; have y3 : wx.cell? ⟨w.heap.size + 1, 3, none⟩ = some (.int .i64 b.f3) := (cell_of hxb 3).trans rfl; have y4 : wx.cell? ⟨w.heap.size + 1, 4, none⟩ = some (.int .i64 b.f4) := (cell_of hxb 4).trans rfl; clear hxa hxb)))
  clear x0 x1 x2 x3 x4 y0 y1 y2 y3 y4
  cases hs : still
  · cases ho : one
    · go_wp2_with (first | (go_at_call 17; refine (sanity_calls _).mono ?_; rintro e wz ⟨rfl, hb⟩; have n0_ := Aside0.mk (below_step HB.out hb); clear HB; have HB := n0_; clear n0_; clear hb))
      go_ret
      exact ⟨rfl, HB.out⟩
    · have e2 := F2.out ho
      rw [e2]
      go_wp2_with (first | (go_at_call 17; refine (sanity_calls _).mono ?_; rintro e wz ⟨rfl, hb⟩; have n0_ := Aside0.mk (below_step HB.out hb); clear HB; have HB := n0_; clear n0_; clear hb))
      go_ret
      exact ⟨rfl, HB.out⟩
  · have e1 := F1.out hs
    rw [e1]
    by_cases hg : g = 0
    · obtain ⟨hh, hkm⟩ := F3.out HP1.out HP2.out hs hg
      have hkd : decide (k > m) = false := decide_eq_false (by omega)
      have hgb : (g == 0) = true := beq_iff_eq.mpr hg
      rw [hh]
      clear hg hh hkm e1
      cases ho : one
      · go_wp2_with (first | (go_at_call 17; refine (sanity_calls _).mono ?_; rintro e wz ⟨rfl, hb⟩; have n0_ := Aside0.mk (below_step HB.out hb); clear HB; have HB := n0_; clear n0_; clear hb))
        go_ret
        exact ⟨rfl, HB.out⟩
      · have e2 := F2.out ho
        rw [e2]
        go_wp2_with (first | (go_at_call 17; refine (sanity_calls _).mono ?_; rintro e wz ⟨rfl, hb⟩; have n0_ := Aside0.mk (below_step HB.out hb); clear HB; have HB := n0_; clear n0_; clear hb))
        go_ret
        exact ⟨rfl, HB.out⟩
    · have hgb : (g == 0) = false := beq_eq_false_iff_ne.mpr hg
      clear hg e1
      cases ho : one
      · go_wp2_with (first | (go_at_call 17; refine (sanity_calls _).mono ?_; rintro e wz ⟨rfl, hb⟩; have n0_ := Aside0.mk (below_step HB.out hb); clear HB; have HB := n0_; clear n0_; clear hb))
        go_ret
        exact ⟨rfl, HB.out⟩
      · have e2 := F2.out ho
        rw [e2]
        go_wp2_with (first | (go_at_call 17; refine (sanity_calls _).mono ?_; rintro e wz ⟨rfl, hb⟩; have n0_ := Aside0.mk (below_step HB.out hb); clear HB; have HB := n0_; clear n0_; clear hb))
        go_ret
        exact ⟨rfl, HB.out⟩

theorem beq_ok {x : Int} (h : (x == 0) = true) : x = 0 := by simpa using h
theorem more_walk (n : Int) (A : Option Addr) (c : Nat) (l : List S24) (a b : S24) (w : World) (hr : Kd.C k24 w A l.length l) (hc : l.length ≤ c) :
    Calls Try.prog 4 #[.int .i64 n, .slice A l.length c, .agg #[.int .i64 a.f0, .int .i64 a.f1, .int .i64 a.f2, .int .i64 a.f3, .int .i64 a.f4], .agg #[.int .i64 b.f0, .int .i64 b.f1, .int .i64 b.f2, .int .i64 b.f3, .int .i64 b.f4]] w fun e w' => e = .returned (.bool true) ∧ Below w.heap.size w w' := by
  cases hk : (checkE n l == 0)
  · exact more_A n A c l a b w hr hc hk
  by_cases h39 : l.length ≤ 39
  case neg => exact more_B n A c l a b w hr hc hk h39
  cases hk2 : (checkE n [a, b] == 0)
  · exact more_C n A c l a b w hr hc hk h39 hk2
  have hk' := beq_ok hk
  obtain ⟨ra, rb⟩ := two_right (beq_ok hk2)
  have hkm := check_app hk' h39 ra
  obtain ⟨n1, n2, _, _⟩ := check_ok hk'
  have hli : lineE n l b = 0 := by unfold lineE; rw [if_pos hk', if_pos rb]
  have hlm : lineE n (l ++ [a]) b = 0 := by unfold lineE; rw [if_pos hkm, if_pos rb]
  refine more_D n A c l a b w hr hc hk h39 hk2 (l ++ [a]) (with_ok l a (by omega)) (satB l) (satB (l ++ [a])) (entB l b) (entB (l ++ [a]) b) (prove_Most.g n l b).1 (prove_Most.g n l b).2 (prove_Most.g n (l ++ [a]) b).1 (prove_Most.g n (l ++ [a]) b).2
    (satB l = true → ∃ v, Top l b v) (satB (l ++ [a]) = true → ∃ v, Top (l ++ [a]) b v)
    ⟨fun W A c h hc => ?_⟩ ⟨fun W A c h hc => ?_⟩ ⟨fun W A c h hc => ?_⟩ ⟨fun W A c h hc => ?_⟩ ⟨fun W A c h hc => ?_⟩ ⟨fun W A c h hc => ?_⟩ sat_less ent_more ?_
  · exact prove_Possible.calls n A c l _ 0 W h hc (by unfold prove_Possible.f; rw [if_pos hk'])
  · exact prove_Possible.calls n A c (l ++ [a]) _ 0 W h hc (by unfold prove_Possible.f; rw [if_pos hkm])
  · exact (Most_told n A c l b W h hc).mono fun e w' h => ⟨h.1, h.2.1, h.2.2 hli⟩
  · exact (Most_told n A c (l ++ [a]) b W h hc).mono fun e w' h => ⟨h.1, h.2.1, h.2.2 hlm⟩
  · have hh := Entails_calls n A c l b W h hc
    rw [ent_g hli rfl] at hh
    exact hh
  · have hh := Entails_calls n A c (l ++ [a]) b W h hc
    rw [ent_g hlm rfl] at hh
    exact hh
  · intro p1 p2 hs hg
    have hsl := sat_less hs
    have t1 := p1 hsl
    have t2 := p2 hs
    unfold prove_Most.g at hg ⊢
    rw [if_pos hli, if_pos hsl] at hg ⊢
    rw [if_pos hlm, if_pos hs]
    by_cases hf : topV l b = 1152921504606846976
    · rw [if_pos hf] at hg; cases hg
    · rw [if_neg hf] at hg ⊢
      obtain ⟨u1, u2⟩ := top_more t1 t2 hf
      rw [if_neg u1]
      exact ⟨rfl, u2⟩
end Go.Proofs.Ytmoiickbgokloaa.PA
