/- Walk: the law ProveGreatest. -/
import Derived.Test.YtmoiickbgokloaaEGr
namespace Go.Proofs.Ytmoiickbgokloaa.PA
open Go.RowKit Go.Proofs.YtmoiickbgokloaaW.PrintWords Go.Proofs.YtmoiickbgokloaaW.PrintLast Go.Proofs.YtmoiickbgokloaaW.PrintMore Go.Proofs.Ytmoiickbgokloaa.Utv
set_option linter.unusedVariables false
set_option linter.unusedSimpArgs false
theorem single24 (W : World) (a : S24) : Kd.C k24 (W.alloc (.cells #[.int .i64 a.f0, .int .i64 a.f1, .int .i64 a.f2, .int .i64 a.f3, .int .i64 a.f4] 24)) (some ⟨W.heap.size, 0, none⟩) [a].length [a] := by
 have ho := World.ownsRow_lit (base := W.heap.size) (e := 24) (size := 5) W #[.int .i64 a.f0, .int .i64 a.f1, .int .i64 a.f2, .int .i64 a.f3, .int .i64 a.f4] 1 (Nat.le_refl _) (by simp [maxLen]) (by rfl)
 have hR : Kd.R k24 24 (W.alloc (.cells #[.int .i64 a.f0, .int .i64 a.f1, .int .i64 a.f2, .int .i64 a.f3, .int .i64 a.f4] 24)) W.heap.size (fun _ => True) (.slice (some ⟨W.heap.size, 0, none⟩) [a].length 1) [a] :=
  ⟨fun _ _ => trivial, [.int .i64 a.f0, .int .i64 a.f1, .int .i64 a.f2, .int .i64 a.f3, .int .i64 a.f4], ho, Reps.c5 (k24_mkM _ _ _ a) (Reps.none _ _)⟩
 obtain ⟨A, c, he, _, hC⟩ := Kd.R_reads hR
 injection he with x y z
 rw [← x] at hC
 exact hC
set_option maxRecDepth 100000 in
set_option maxHeartbeats 4000000 in
theorem great_1 (n : Int) (A : Option Addr) (c : Nat) (l : List S24) (a : S24) (B : Option Addr) (d : Nat) (x : List Int) (w : World) (hr : Kd.C k24 w A l.length l) (hc : l.length ≤ c) (hr2 : Kd.C (Kd.int .i64) w B x.length x) (hd : x.length ≤ d) (hk : (checkE n l == 0) = false) :
 Calls Try.prog 10 #[.int .i64 n, .slice A l.length c, .agg #[.int .i64 a.f0, .int .i64 a.f1, .int .i64 a.f2, .int .i64 a.f3, .int .i64 a.f4], .slice B x.length d] w fun e w' => e = .returned (.bool true) ∧ Below w.heap.size w w' := by
 have hu24 := Try.underlying24
 have hb0 := (Below.refl _ w).alloc (Nat.le_refl _) (.cells #[.int .i64 a.f0, .int .i64 a.f1, .int .i64 a.f2, .int .i64 a.f3, .int .i64 a.f4] 24)
 have HC := Aside0.mk (Kd.C_below hr hb0)
 have HN := Aside0.mk (Kd.C_below hr2 hb0)
 have HB := Aside0.mk hb0
 have HX := Aside0.mk (heap1_0 w (.cells #[.int .i64 a.f0, .int .i64 a.f1, .int .i64 a.f2, .int .i64 a.f3, .int .i64 a.f4] 24))
 clear hr hr2 hb0
 have HK := Aside0.mk hk
 clear hk
 go_enter Try.func10, Try.ntmps10
 go_upto_region 1 with (fail)
 generalize (w.alloc (.cells #[.int .i64 a.f0, .int .i64 a.f1, .int .i64 a.f2, .int .i64 a.f3, .int .i64 a.f4] 24)) = w0 at *
 go_wp2_with (first | (go_at_call 22; (with_reducible refine (lright_calls n A c l _ HC.out hc).mono ?_); rw [HK.out]; rintro e wx ⟨rfl, hb⟩; have n0_ := Aside0.mk (below_step HB.out hb); clear HB; have HB := n0_; clear n0_; have n1_ := Aside0.mk (Kd.C_below HC.out hb); clear HC; have HC := n1_; clear n1_; have n2_ := Aside0.mk (Kd.C_below HN.out hb); clear HN; have HN := n2_; clear n2_; have n3_ := Aside0.mk (blk_below HX.out hb); clear HX; have HX := n3_; clear n3_; clear hb; (try clear x0 x1 x2 x3 x4); have hx_ := HX.out; have x0 : wx.cell? ⟨w.heap.size, 0, none⟩ = some (.int .i64 a.f0) := (cell_of hx_ 0).trans rfl; have x1 : wx.cell? ⟨w.heap.size, 1, none⟩ = some (.int .i64 a.f1) := (cell_of hx_ 1).trans rfl; have x2 : wx.cell? ⟨w.heap.size, 2, none⟩ = some (.int .i64 a.f2) := (cell_of hx_ 2).trans rfl; have x3 : wx.cell? ⟨w.heap.size, 3, none⟩ = some (.int .i64 a.f3) := (cell_of hx_ 3).trans rfl; have x4 : wx.cell? ⟨w.heap.size, 4, none⟩ = some (.int .i64 a.f4) := (cell_of hx_ 4).trans rfl; clear hx_) | (go_at_call 17; refine (sanity_calls _).mono ?_; rintro e wz ⟨rfl, hb⟩; have n0_ := Aside0.mk (below_step HB.out hb); clear HB; have HB := n0_; clear n0_; clear hb))
 go_ret
 exact ⟨rfl, HB.out⟩
set_option maxRecDepth 100000 in
set_option maxHeartbeats 4000000 in
theorem great_2 (n : Int) (A : Option Addr) (c : Nat) (l : List S24) (a : S24) (B : Option Addr) (d : Nat) (x : List Int) (w : World) (hr : Kd.C k24 w A l.length l) (hc : l.length ≤ c) (hr2 : Kd.C (Kd.int .i64) w B x.length x) (hd : x.length ≤ d) (hk : (checkE n l == 0) = true) (h38 : ¬ l.length ≤ 38) :
 Calls Try.prog 10 #[.int .i64 n, .slice A l.length c, .agg #[.int .i64 a.f0, .int .i64 a.f1, .int .i64 a.f2, .int .i64 a.f3, .int .i64 a.f4], .slice B x.length d] w fun e w' => e = .returned (.bool true) ∧ Below w.heap.size w w' := by
 have hu24 := Try.underlying24
 have hb0 := (Below.refl _ w).alloc (Nat.le_refl _) (.cells #[.int .i64 a.f0, .int .i64 a.f1, .int .i64 a.f2, .int .i64 a.f3, .int .i64 a.f4] 24)
 have HC := Aside0.mk (Kd.C_below hr hb0)
 have HN := Aside0.mk (Kd.C_below hr2 hb0)
 have HB := Aside0.mk hb0
 have HX := Aside0.mk (heap1_0 w (.cells #[.int .i64 a.f0, .int .i64 a.f1, .int .i64 a.f2, .int .i64 a.f3, .int .i64 a.f4] 24))
 clear hr hr2 hb0
 have HK := Aside0.mk hk
 have hd1 : decide ((l.length : Int) > 38) = true := decide_eq_true (by omega)
 clear hk
 go_enter Try.func10, Try.ntmps10
 go_upto_region 1 with (fail)
 generalize (w.alloc (.cells #[.int .i64 a.f0, .int .i64 a.f1, .int .i64 a.f2, .int .i64 a.f3, .int .i64 a.f4] 24)) = w0 at *
 go_wp2_with (first | (go_at_call 22; (with_reducible refine (lright_calls n A c l _ HC.out hc).mono ?_); rw [HK.out]; rintro e wx ⟨rfl, hb⟩; have n0_ := Aside0.mk (below_step HB.out hb); clear HB; have HB := n0_; clear n0_; have n1_ := Aside0.mk (Kd.C_below HC.out hb); clear HC; have HC := n1_; clear n1_; have n2_ := Aside0.mk (Kd.C_below HN.out hb); clear HN; have HN := n2_; clear n2_; have n3_ := Aside0.mk (blk_below HX.out hb); clear HX; have HX := n3_; clear n3_; clear hb; (try clear x0 x1 x2 x3 x4); have hx_ := HX.out; have x0 : wx.cell? ⟨w.heap.size, 0, none⟩ = some (.int .i64 a.f0) := (cell_of hx_ 0).trans rfl; have x1 : wx.cell? ⟨w.heap.size, 1, none⟩ = some (.int .i64 a.f1) := (cell_of hx_ 1).trans rfl; have x2 : wx.cell? ⟨w.heap.size, 2, none⟩ = some (.int .i64 a.f2) := (cell_of hx_ 2).trans rfl; have x3 : wx.cell? ⟨w.heap.size, 3, none⟩ = some (.int .i64 a.f3) := (cell_of hx_ 3).trans rfl; have x4 : wx.cell? ⟨w.heap.size, 4, none⟩ = some (.int .i64 a.f4) := (cell_of hx_ 4).trans rfl; clear hx_) | (go_at_call 17; refine (sanity_calls _).mono ?_; rintro e wz ⟨rfl, hb⟩; have n0_ := Aside0.mk (below_step HB.out hb); clear HB; have HB := n0_; clear n0_; clear hb))
 go_ret
 exact ⟨rfl, HB.out⟩
set_option maxRecDepth 100000 in
set_option maxHeartbeats 4000000 in
theorem great_3 (n : Int) (A : Option Addr) (c : Nat) (l : List S24) (a : S24) (B : Option Addr) (d : Nat) (x : List Int) (w : World) (hr : Kd.C k24 w A l.length l) (hc : l.length ≤ c) (hr2 : Kd.C (Kd.int .i64) w B x.length x) (hd : x.length ≤ d) (hk : (checkE n l == 0) = true) (h38 : l.length ≤ 38) (h20 : ¬ x.length ≤ 20) :
 Calls Try.prog 10 #[.int .i64 n, .slice A l.length c, .agg #[.int .i64 a.f0, .int .i64 a.f1, .int .i64 a.f2, .int .i64 a.f3, .int .i64 a.f4], .slice B x.length d] w fun e w' => e = .returned (.bool true) ∧ Below w.heap.size w w' := by
 have hu24 := Try.underlying24
 have hb0 := (Below.refl _ w).alloc (Nat.le_refl _) (.cells #[.int .i64 a.f0, .int .i64 a.f1, .int .i64 a.f2, .int .i64 a.f3, .int .i64 a.f4] 24)
 have HC := Aside0.mk (Kd.C_below hr hb0)
 have HN := Aside0.mk (Kd.C_below hr2 hb0)
 have HB := Aside0.mk hb0
 have HX := Aside0.mk (heap1_0 w (.cells #[.int .i64 a.f0, .int .i64 a.f1, .int .i64 a.f2, .int .i64 a.f3, .int .i64 a.f4] 24))
 clear hr hr2 hb0
 have HK := Aside0.mk hk
 have hd1 : decide ((l.length : Int) > 38) = false := decide_eq_false (by omega)
 have hd2 : decide ((x.length : Int) > 20) = true := decide_eq_true (by omega)
 clear hk
 go_enter Try.func10, Try.ntmps10
 go_upto_region 1 with (fail)
 generalize (w.alloc (.cells #[.int .i64 a.f0, .int .i64 a.f1, .int .i64 a.f2, .int .i64 a.f3, .int .i64 a.f4] 24)) = w0 at *
 go_wp2_with (first | (go_at_call 22; (with_reducible refine (lright_calls n A c l _ HC.out hc).mono ?_); rw [HK.out]; rintro e wx ⟨rfl, hb⟩; have n0_ := Aside0.mk (below_step HB.out hb); clear HB; have HB := n0_; clear n0_; have n1_ := Aside0.mk (Kd.C_below HC.out hb); clear HC; have HC := n1_; clear n1_; have n2_ := Aside0.mk (Kd.C_below HN.out hb); clear HN; have HN := n2_; clear n2_; have n3_ := Aside0.mk (blk_below HX.out hb); clear HX; have HX := n3_; clear n3_; clear hb; (try clear x0 x1 x2 x3 x4); have hx_ := HX.out; have x0 : wx.cell? ⟨w.heap.size, 0, none⟩ = some (.int .i64 a.f0) := (cell_of hx_ 0).trans rfl; have x1 : wx.cell? ⟨w.heap.size, 1, none⟩ = some (.int .i64 a.f1) := (cell_of hx_ 1).trans rfl; have x2 : wx.cell? ⟨w.heap.size, 2, none⟩ = some (.int .i64 a.f2) := (cell_of hx_ 2).trans rfl; have x3 : wx.cell? ⟨w.heap.size, 3, none⟩ = some (.int .i64 a.f3) := (cell_of hx_ 3).trans rfl; have x4 : wx.cell? ⟨w.heap.size, 4, none⟩ = some (.int .i64 a.f4) := (cell_of hx_ 4).trans rfl; clear hx_) | (go_at_call 17; refine (sanity_calls _).mono ?_; rintro e wz ⟨rfl, hb⟩; have n0_ := Aside0.mk (below_step HB.out hb); clear HB; have HB := n0_; clear n0_; clear hb))
 go_ret
 exact ⟨rfl, HB.out⟩
set_option maxRecDepth 100000 in
set_option maxHeartbeats 4000000 in
theorem great_4 (n : Int) (A : Option Addr) (c : Nat) (l : List S24) (a : S24) (B : Option Addr) (d : Nat) (x : List Int) (w : World) (hr : Kd.C k24 w A l.length l) (hc : l.length ≤ c) (hr2 : Kd.C (Kd.int .i64) w B x.length x) (hd : x.length ≤ d) (hk : (checkE n l == 0) = true) (h38 : l.length ≤ 38) (h20 : x.length ≤ 20) (hk2 : (checkE n [a] == 0) = false) :
 Calls Try.prog 10 #[.int .i64 n, .slice A l.length c, .agg #[.int .i64 a.f0, .int .i64 a.f1, .int .i64 a.f2, .int .i64 a.f3, .int .i64 a.f4], .slice B x.length d] w fun e w' => e = .returned (.bool true) ∧ Below w.heap.size w w' := by
 have hu24 := Try.underlying24
 have hb0 := (Below.refl _ w).alloc (Nat.le_refl _) (.cells #[.int .i64 a.f0, .int .i64 a.f1, .int .i64 a.f2, .int .i64 a.f3, .int .i64 a.f4] 24)
 have HC := Aside0.mk (Kd.C_below hr hb0)
 have HN := Aside0.mk (Kd.C_below hr2 hb0)
 have HB := Aside0.mk hb0
 have HX := Aside0.mk (heap1_0 w (.cells #[.int .i64 a.f0, .int .i64 a.f1, .int .i64 a.f2, .int .i64 a.f3, .int .i64 a.f4] 24))
 clear hr hr2 hb0
 have HK := Aside0.mk hk
 have HK2 := Aside0.mk hk2
 have hd1 : decide ((l.length : Int) > 38) = false := decide_eq_false (by omega)
 have hd2 : decide ((x.length : Int) > 20) = false := decide_eq_false (by omega)
 clear hk hk2
 go_enter Try.func10, Try.ntmps10
 go_upto_region 1 with (fail)
 generalize (w.alloc (.cells #[.int .i64 a.f0, .int .i64 a.f1, .int .i64 a.f2, .int .i64 a.f3, .int .i64 a.f4] 24)) = w0 at *
 go_wp2_with (first | (go_at_call 22; (with_reducible refine (lright_calls n A c l _ HC.out hc).mono ?_); rw [HK.out]; rintro e wx ⟨rfl, hb⟩; have n0_ := Aside0.mk (below_step HB.out hb); clear HB; have HB := n0_; clear n0_; have n1_ := Aside0.mk (Kd.C_below HC.out hb); clear HC; have HC := n1_; clear n1_; have n2_ := Aside0.mk (Kd.C_below HN.out hb); clear HN; have HN := n2_; clear n2_; have n3_ := Aside0.mk (blk_below HX.out hb); clear HX; have HX := n3_; clear n3_; clear hb; (try clear x0 x1 x2 x3 x4); have hx_ := HX.out; have x0 : wx.cell? ⟨w.heap.size, 0, none⟩ = some (.int .i64 a.f0) := (cell_of hx_ 0).trans rfl; have x1 : wx.cell? ⟨w.heap.size, 1, none⟩ = some (.int .i64 a.f1) := (cell_of hx_ 1).trans rfl; have x2 : wx.cell? ⟨w.heap.size, 2, none⟩ = some (.int .i64 a.f2) := (cell_of hx_ 2).trans rfl; have x3 : wx.cell? ⟨w.heap.size, 3, none⟩ = some (.int .i64 a.f3) := (cell_of hx_ 3).trans rfl; have x4 : wx.cell? ⟨w.heap.size, 4, none⟩ = some (.int .i64 a.f4) := (cell_of hx_ 4).trans rfl; clear hx_) | (go_at_call 22; refine (lright_calls n _ 1 [a] _ (single24 _ a) (by simp)).mono ?_; rw [HK2.out]; rintro e wx ⟨rfl, hb2⟩; have hb := below_step ((Below.refl _ _).alloc (Nat.le_refl _) (.cells #[.int .i64 a.f0, .int .i64 a.f1, .int .i64 a.f2, .int .i64 a.f3, .int .i64 a.f4] 24)) hb2; have n0_ := Aside0.mk (below_step HB.out hb); clear HB; have HB := n0_; clear n0_; have n1_ := Aside0.mk (Kd.C_below HC.out hb); clear HC; have HC := n1_; clear n1_; have n2_ := Aside0.mk (Kd.C_below HN.out hb); clear HN; have HN := n2_; clear n2_; have n3_ := Aside0.mk (blk_below HX.out hb); clear HX; have HX := n3_; clear n3_; clear hb hb2; (try clear x0 x1 x2 x3 x4); have hx_ := HX.out; have x0 : wx.cell? ⟨w.heap.size, 0, none⟩ = some (.int .i64 a.f0) := (cell_of hx_ 0).trans rfl; have x1 : wx.cell? ⟨w.heap.size, 1, none⟩ = some (.int .i64 a.f1) := (cell_of hx_ 1).trans rfl; have x2 : wx.cell? ⟨w.heap.size, 2, none⟩ = some (.int .i64 a.f2) := (cell_of hx_ 2).trans rfl; have x3 : wx.cell? ⟨w.heap.size, 3, none⟩ = some (.int .i64 a.f3) := (cell_of hx_ 3).trans rfl; have x4 : wx.cell? ⟨w.heap.size, 4, none⟩ = some (.int .i64 a.f4) := (cell_of hx_ 4).trans rfl; clear hx_) | (go_at_call 17; refine (sanity_calls _).mono ?_; rintro e wz ⟨rfl, hb⟩; have n0_ := Aside0.mk (below_step HB.out hb); clear HB; have HB := n0_; clear n0_; clear hb))
 go_ret
 exact ⟨rfl, HB.out⟩
set_option maxRecDepth 100000 in
set_option maxHeartbeats 4000000 in
theorem great_5 (n : Int) (A : Option Addr) (c : Nat) (l : List S24) (a : S24) (B : Option Addr) (d : Nat) (x : List Int) (w : World) (hr : Kd.C k24 w A l.length l) (hc : l.length ≤ c) (hr2 : Kd.C (Kd.int .i64) w B x.length x) (hd : x.length ≤ d) (hk : (checkE n l == 0) = true) (h38 : l.length ≤ 38) (h20 : x.length ≤ 20) (hk2 : (checkE n [a] == 0) = true) (is sm ft : Bool) (m g lo hi h : Int)
 (FE : Aside0 (∀ (W : World), Kd.C k24 W A l.length l → Calls Try.prog 25 #[.int .i64 n, .slice A l.length c, .agg #[.int .i64 a.f0, .int .i64 a.f1, .int .i64 a.f2, .int .i64 a.f3, .int .i64 a.f4]] W fun e w' => e = .returned (.tuple #[.bool is, .int .i64 0]) ∧ Below W.heap.size W w')) (FP : Aside0 (∀ (W : World), Kd.C k24 W A l.length l → Calls Try.prog 24 #[.int .i64 n, .slice A l.length c] W fun e w' => e = .returned (.tuple #[.bool sm, .int .i64 0]) ∧ Below W.heap.size W w')) (FM : Aside0 (∀ (W : World), Kd.C k24 W A l.length l → Calls Try.prog 18 #[.int .i64 n, .slice A l.length c, .agg #[.int .i64 a.f0, .int .i64 a.f1, .int .i64 a.f2, .int .i64 a.f3, .int .i64 a.f4]] W fun e w' => e = .returned (.tuple #[.int .i64 m, .int .i64 g]) ∧ Below W.heap.size W w')) (FS : Aside0 (∀ (W : World), Kd.C k24 W A l.length l → Calls Try.prog 20 #[.int .i64 n, .slice A l.length c, .int .i64 a.f0] W fun e w' => e = .returned (.tuple #[.int .i64 lo, .int .i64 hi, .int .i64 h]) ∧ Below W.heap.size W w')) (FF : Aside0 (∀ (W : World), Kd.C k24 W A l.length l → Kd.C (Kd.int .i64) W B x.length x → Calls Try.prog 40 #[.int .i64 n, .slice A l.length c, .slice B x.length d] W fun e w' => e = .returned (.bool ft) ∧ Below W.heap.size W w'))
 (hsp : ft = true → (0 ≤ a.f0 ∧ a.f0 < x.length) ∧ (h = 0 → ¬ rd x a.f0 < lo ∧ ¬ rd x a.f0 > hi))
 (hg : (sm = false ∧ g = 10 ∧ is = true) ∨ (sm = true ∧ g = 5 ∧ is = false) ∨ (sm = true ∧ g = 0 ∧ is = decide (m ≤ a.f4) ∧ (m < -1000000 ∨ m ≥ 1000000))) :
 Calls Try.prog 10 #[.int .i64 n, .slice A l.length c, .agg #[.int .i64 a.f0, .int .i64 a.f1, .int .i64 a.f2, .int .i64 a.f3, .int .i64 a.f4], .slice B x.length d] w fun e w' => e = .returned (.bool true) ∧ Below w.heap.size w w' := by
 have hu24 := Try.underlying24
 have hb0 := (Below.refl _ w).alloc (Nat.le_refl _) (.cells #[.int .i64 a.f0, .int .i64 a.f1, .int .i64 a.f2, .int .i64 a.f3, .int .i64 a.f4] 24)
 have HC := Aside0.mk (Kd.C_below hr hb0)
 have HN := Aside0.mk (Kd.C_below hr2 hb0)
 have HB := Aside0.mk hb0
 have HX := Aside0.mk (heap1_0 w (.cells #[.int .i64 a.f0, .int .i64 a.f1, .int .i64 a.f2, .int .i64 a.f3, .int .i64 a.f4] 24))
 clear hr hr2 hb0
 have HK := Aside0.mk hk
 have HK2 := Aside0.mk hk2
 have HSP := Aside0.mk hsp
 have hd1 : decide ((l.length : Int) > 38) = false := decide_eq_false (by omega)
 have hd2 : decide ((x.length : Int) > 20) = false := decide_eq_false (by omega)
 clear hk hk2 hsp
 have HG := Aside0.mk hg
 clear hg
 go_enter Try.func10, Try.ntmps10
 go_upto_region 1 with (fail)
 generalize (w.alloc (.cells #[.int .i64 a.f0, .int .i64 a.f1, .int .i64 a.f2, .int .i64 a.f3, .int .i64 a.f4] 24)) = w0 at *
 go_upto_region 3 with (first | (go_at_call 22; (with_reducible refine (lright_calls n A c l _ HC.out hc).mono ?_); rw [HK.out]; rintro e wx ⟨rfl, hb⟩; have n0_ := Aside0.mk (below_step HB.out hb); clear HB; have HB := n0_; clear n0_; have n1_ := Aside0.mk (Kd.C_below HC.out hb); clear HC; have HC := n1_; clear n1_; have n2_ := Aside0.mk (Kd.C_below HN.out hb); clear HN; have HN := n2_; clear n2_; have n3_ := Aside0.mk (blk_below HX.out hb); clear HX; have HX := n3_; clear n3_; clear hb; (try clear x0 x1 x2 x3 x4); have hx_ := HX.out; have x0 : wx.cell? ⟨w.heap.size, 0, none⟩ = some (.int .i64 a.f0) := (cell_of hx_ 0).trans rfl; have x1 : wx.cell? ⟨w.heap.size, 1, none⟩ = some (.int .i64 a.f1) := (cell_of hx_ 1).trans rfl; have x2 : wx.cell? ⟨w.heap.size, 2, none⟩ = some (.int .i64 a.f2) := (cell_of hx_ 2).trans rfl; have x3 : wx.cell? ⟨w.heap.size, 3, none⟩ = some (.int .i64 a.f3) := (cell_of hx_ 3).trans rfl; have x4 : wx.cell? ⟨w.heap.size, 4, none⟩ = some (.int .i64 a.f4) := (cell_of hx_ 4).trans rfl; clear hx_) | (go_at_call 22; refine (lright_calls n _ 1 [a] _ (single24 _ a) (by simp)).mono ?_; rw [HK2.out]; rintro e wx ⟨rfl, hb2⟩; have hb := below_step ((Below.refl _ _).alloc (Nat.le_refl _) (.cells #[.int .i64 a.f0, .int .i64 a.f1, .int .i64 a.f2, .int .i64 a.f3, .int .i64 a.f4] 24)) hb2; have n0_ := Aside0.mk (below_step HB.out hb); clear HB; have HB := n0_; clear n0_; have n1_ := Aside0.mk (Kd.C_below HC.out hb); clear HC; have HC := n1_; clear n1_; have n2_ := Aside0.mk (Kd.C_below HN.out hb); clear HN; have HN := n2_; clear n2_; have n3_ := Aside0.mk (blk_below HX.out hb); clear HX; have HX := n3_; clear n3_; clear hb hb2; (try clear x0 x1 x2 x3 x4); have hx_ := HX.out; have x0 : wx.cell? ⟨w.heap.size, 0, none⟩ = some (.int .i64 a.f0) := (cell_of hx_ 0).trans rfl; have x1 : wx.cell? ⟨w.heap.size, 1, none⟩ = some (.int .i64 a.f1) := (cell_of hx_ 1).trans rfl; have x2 : wx.cell? ⟨w.heap.size, 2, none⟩ = some (.int .i64 a.f2) := (cell_of hx_ 2).trans rfl; have x3 : wx.cell? ⟨w.heap.size, 3, none⟩ = some (.int .i64 a.f3) := (cell_of hx_ 3).trans rfl; have x4 : wx.cell? ⟨w.heap.size, 4, none⟩ = some (.int .i64 a.f4) := (cell_of hx_ 4).trans rfl; clear hx_))
 go_upto_region 6 with (first | (go_at_call 25; (with_reducible refine (FE.out _ HC.out).mono ?_); rintro e wx ⟨rfl, hb⟩; have n0_ := Aside0.mk (below_step HB.out hb); clear HB; have HB := n0_; clear n0_; have n1_ := Aside0.mk (Kd.C_below HC.out hb); clear HC; have HC := n1_; clear n1_; have n2_ := Aside0.mk (Kd.C_below HN.out hb); clear HN; have HN := n2_; clear n2_; have n3_ := Aside0.mk (blk_below HX.out hb); clear HX; have HX := n3_; clear n3_; clear hb; (try clear x0 x1 x2 x3 x4); have hx_ := HX.out; have x0 : wx.cell? ⟨w.heap.size, 0, none⟩ = some (.int .i64 a.f0) := (cell_of hx_ 0).trans rfl; have x1 : wx.cell? ⟨w.heap.size, 1, none⟩ = some (.int .i64 a.f1) := (cell_of hx_ 1).trans rfl; have x2 : wx.cell? ⟨w.heap.size, 2, none⟩ = some (.int .i64 a.f2) := (cell_of hx_ 2).trans rfl; have x3 : wx.cell? ⟨w.heap.size, 3, none⟩ = some (.int .i64 a.f3) := (cell_of hx_ 3).trans rfl; have x4 : wx.cell? ⟨w.heap.size, 4, none⟩ = some (.int .i64 a.f4) := (cell_of hx_ 4).trans rfl; clear hx_) | (go_at_call 24; (with_reducible refine (FP.out _ HC.out).mono ?_); rintro e wx ⟨rfl, hb⟩; have n0_ := Aside0.mk (below_step HB.out hb); clear HB; have HB := n0_; clear n0_; have n1_ := Aside0.mk (Kd.C_below HC.out hb); clear HC; have HC := n1_; clear n1_; have n2_ := Aside0.mk (Kd.C_below HN.out hb); clear HN; have HN := n2_; clear n2_; have n3_ := Aside0.mk (blk_below HX.out hb); clear HX; have HX := n3_; clear n3_; clear hb; (try clear x0 x1 x2 x3 x4); have hx_ := HX.out; have x0 : wx.cell? ⟨w.heap.size, 0, none⟩ = some (.int .i64 a.f0) := (cell_of hx_ 0).trans rfl; have x1 : wx.cell? ⟨w.heap.size, 1, none⟩ = some (.int .i64 a.f1) := (cell_of hx_ 1).trans rfl; have x2 : wx.cell? ⟨w.heap.size, 2, none⟩ = some (.int .i64 a.f2) := (cell_of hx_ 2).trans rfl; have x3 : wx.cell? ⟨w.heap.size, 3, none⟩ = some (.int .i64 a.f3) := (cell_of hx_ 3).trans rfl; have x4 : wx.cell? ⟨w.heap.size, 4, none⟩ = some (.int .i64 a.f4) := (cell_of hx_ 4).trans rfl; clear hx_) | (go_at_call 18; (with_reducible refine (FM.out _ HC.out).mono ?_); rintro e wx ⟨rfl, hb⟩; have n0_ := Aside0.mk (below_step HB.out hb); clear HB; have HB := n0_; clear n0_; have n1_ := Aside0.mk (Kd.C_below HC.out hb); clear HC; have HC := n1_; clear n1_; have n2_ := Aside0.mk (Kd.C_below HN.out hb); clear HN; have HN := n2_; clear n2_; have n3_ := Aside0.mk (blk_below HX.out hb); clear HX; have HX := n3_; clear n3_; clear hb; (try clear x0 x1 x2 x3 x4); have hx_ := HX.out; have x0 : wx.cell? ⟨w.heap.size, 0, none⟩ = some (.int .i64 a.f0) := (cell_of hx_ 0).trans rfl; have x1 : wx.cell? ⟨w.heap.size, 1, none⟩ = some (.int .i64 a.f1) := (cell_of hx_ 1).trans rfl; have x2 : wx.cell? ⟨w.heap.size, 2, none⟩ = some (.int .i64 a.f2) := (cell_of hx_ 2).trans rfl; have x3 : wx.cell? ⟨w.heap.size, 3, none⟩ = some (.int .i64 a.f3) := (cell_of hx_ 3).trans rfl; have x4 : wx.cell? ⟨w.heap.size, 4, none⟩ = some (.int .i64 a.f4) := (cell_of hx_ 4).trans rfl; clear hx_))
 rcases HG.out with ⟨rfl, rfl, rfl⟩ | ⟨rfl, rfl, rfl⟩ | ⟨rfl, rfl, hq, hm⟩
 · clear HG
   go_upto_region 9 with (first | (go_at_call 20; (with_reducible refine (FS.out _ HC.out).mono ?_); rintro e wx ⟨rfl, hb⟩; have n0_ := Aside0.mk (below_step HB.out hb); clear HB; have HB := n0_; clear n0_; have n1_ := Aside0.mk (Kd.C_below HC.out hb); clear HC; have HC := n1_; clear n1_; have n2_ := Aside0.mk (Kd.C_below HN.out hb); clear HN; have HN := n2_; clear n2_; have n3_ := Aside0.mk (blk_below HX.out hb); clear HX; have HX := n3_; clear n3_; clear hb; (try clear x0 x1 x2 x3 x4); have hx_ := HX.out; have x0 : wx.cell? ⟨w.heap.size, 0, none⟩ = some (.int .i64 a.f0) := (cell_of hx_ 0).trans rfl; have x1 : wx.cell? ⟨w.heap.size, 1, none⟩ = some (.int .i64 a.f1) := (cell_of hx_ 1).trans rfl; have x2 : wx.cell? ⟨w.heap.size, 2, none⟩ = some (.int .i64 a.f2) := (cell_of hx_ 2).trans rfl; have x3 : wx.cell? ⟨w.heap.size, 3, none⟩ = some (.int .i64 a.f3) := (cell_of hx_ 3).trans rfl; have x4 : wx.cell? ⟨w.heap.size, 4, none⟩ = some (.int .i64 a.f4) := (cell_of hx_ 4).trans rfl; clear hx_))
   go_cut [142] (fun v142 wc => v142 = .bool false ∧ Aside0 (Below wx.heap.size wx wc))
   case first =>
    cases ft
    · go_wp2_with (go_at_call 40; refine (FF.out _ HC.out HN.out).mono ?_; rintro e wy ⟨rfl, hb⟩; have HY := Aside0.mk hb; (try replace hxa := pw_cell_below hb hxa); have hx_ := blk_below HX.out hb; clear x0 x1 x2 x3 x4 hb; have x0 : wy.cell? ⟨w.heap.size, 0, none⟩ = some (.int .i64 a.f0) := (cell_of hx_ 0).trans rfl; have x1 : wy.cell? ⟨w.heap.size, 1, none⟩ = some (.int .i64 a.f1) := (cell_of hx_ 1).trans rfl; have x2 : wy.cell? ⟨w.heap.size, 2, none⟩ = some (.int .i64 a.f2) := (cell_of hx_ 2).trans rfl; have x3 : wy.cell? ⟨w.heap.size, 3, none⟩ = some (.int .i64 a.f3) := (cell_of hx_ 3).trans rfl; have x4 : wy.cell? ⟨w.heap.size, 4, none⟩ = some (.int .i64 a.f4) := (cell_of hx_ 4).trans rfl; clear hx_)
      go_meet
      exact ⟨rfl, HY⟩
    · obtain ⟨⟨q0, q1⟩, hq⟩ := HSP.out rfl
      obtain ⟨ad, ex, hxa⟩ := Kd.at_int HN.out a.f0 q0 q1
      cases ex
      by_cases h0 : h = 0
      · obtain ⟨k1, k2⟩ := hq h0
        have h0b : (h == 0) = true := beq_iff_eq.mpr h0
        have k1b : decide (rd x a.f0 < lo) = false := decide_eq_false (by omega)
        have k2b : decide (rd x a.f0 > hi) = false := decide_eq_false (by omega)
        clear hq k1 k2 h0
        go_wp2_with (go_at_call 40; refine (FF.out _ HC.out HN.out).mono ?_; rintro e wy ⟨rfl, hb⟩; have HY := Aside0.mk hb; (try replace hxa := pw_cell_below hb hxa); have hx_ := blk_below HX.out hb; clear x0 x1 x2 x3 x4 hb; have x0 : wy.cell? ⟨w.heap.size, 0, none⟩ = some (.int .i64 a.f0) := (cell_of hx_ 0).trans rfl; have x1 : wy.cell? ⟨w.heap.size, 1, none⟩ = some (.int .i64 a.f1) := (cell_of hx_ 1).trans rfl; have x2 : wy.cell? ⟨w.heap.size, 2, none⟩ = some (.int .i64 a.f2) := (cell_of hx_ 2).trans rfl; have x3 : wy.cell? ⟨w.heap.size, 3, none⟩ = some (.int .i64 a.f3) := (cell_of hx_ 3).trans rfl; have x4 : wy.cell? ⟨w.heap.size, 4, none⟩ = some (.int .i64 a.f4) := (cell_of hx_ 4).trans rfl; clear hx_)
        go_meet
        exact ⟨rfl, HY⟩
      · have h0b : (h == 0) = false := beq_eq_false_iff_ne.mpr h0
        clear hq h0
        go_wp2_with (go_at_call 40; refine (FF.out _ HC.out HN.out).mono ?_; rintro e wy ⟨rfl, hb⟩; have HY := Aside0.mk hb; (try replace hxa := pw_cell_below hb hxa); have hx_ := blk_below HX.out hb; clear x0 x1 x2 x3 x4 hb; have x0 : wy.cell? ⟨w.heap.size, 0, none⟩ = some (.int .i64 a.f0) := (cell_of hx_ 0).trans rfl; have x1 : wy.cell? ⟨w.heap.size, 1, none⟩ = some (.int .i64 a.f1) := (cell_of hx_ 1).trans rfl; have x2 : wy.cell? ⟨w.heap.size, 2, none⟩ = some (.int .i64 a.f2) := (cell_of hx_ 2).trans rfl; have x3 : wy.cell? ⟨w.heap.size, 3, none⟩ = some (.int .i64 a.f3) := (cell_of hx_ 3).trans rfl; have x4 : wy.cell? ⟨w.heap.size, 4, none⟩ = some (.int .i64 a.f4) := (cell_of hx_ 4).trans rfl; clear hx_)
        go_meet
        exact ⟨rfl, HY⟩
   case rest =>
   obtain ⟨rfl, HY⟩ := hcut
   have hb := HY.out
   have n0_ := Aside0.mk (below_step HB.out hb)
   clear HB
   have HB := n0_
   clear n0_
   have n1_ := Aside0.mk (Kd.C_below HC.out hb)
   clear HC
   have HC := n1_
   clear n1_
   have n2_ := Aside0.mk (Kd.C_below HN.out hb)
   clear HN
   have HN := n2_
   clear n2_
   have n3_ := Aside0.mk (blk_below HX.out hb)
   clear HX
   have HX := n3_
   clear n3_
   clear hb HY x0 x1 x2 x3 x4
   go_wp2_with (first | (go_at_call 17; refine (sanity_calls _).mono ?_; rintro e wz ⟨rfl, hb⟩; have n0_ := Aside0.mk (below_step HB.out hb); clear HB; have HB := n0_; clear n0_; clear hb))
   go_ret
   exact ⟨rfl, HB.out⟩
 · clear HG
   go_upto_region 9 with (first | (go_at_call 20; (with_reducible refine (FS.out _ HC.out).mono ?_); rintro e wx ⟨rfl, hb⟩; have n0_ := Aside0.mk (below_step HB.out hb); clear HB; have HB := n0_; clear n0_; have n1_ := Aside0.mk (Kd.C_below HC.out hb); clear HC; have HC := n1_; clear n1_; have n2_ := Aside0.mk (Kd.C_below HN.out hb); clear HN; have HN := n2_; clear n2_; have n3_ := Aside0.mk (blk_below HX.out hb); clear HX; have HX := n3_; clear n3_; clear hb; (try clear x0 x1 x2 x3 x4); have hx_ := HX.out; have x0 : wx.cell? ⟨w.heap.size, 0, none⟩ = some (.int .i64 a.f0) := (cell_of hx_ 0).trans rfl; have x1 : wx.cell? ⟨w.heap.size, 1, none⟩ = some (.int .i64 a.f1) := (cell_of hx_ 1).trans rfl; have x2 : wx.cell? ⟨w.heap.size, 2, none⟩ = some (.int .i64 a.f2) := (cell_of hx_ 2).trans rfl; have x3 : wx.cell? ⟨w.heap.size, 3, none⟩ = some (.int .i64 a.f3) := (cell_of hx_ 3).trans rfl; have x4 : wx.cell? ⟨w.heap.size, 4, none⟩ = some (.int .i64 a.f4) := (cell_of hx_ 4).trans rfl; clear hx_))
   go_cut [142] (fun v142 wc => v142 = .bool false ∧ Aside0 (Below wx.heap.size wx wc))
   case first =>
    cases ft
    · go_wp2_with (go_at_call 40; refine (FF.out _ HC.out HN.out).mono ?_; rintro e wy ⟨rfl, hb⟩; have HY := Aside0.mk hb; (try replace hxa := pw_cell_below hb hxa); have hx_ := blk_below HX.out hb; clear x0 x1 x2 x3 x4 hb; have x0 : wy.cell? ⟨w.heap.size, 0, none⟩ = some (.int .i64 a.f0) := (cell_of hx_ 0).trans rfl; have x1 : wy.cell? ⟨w.heap.size, 1, none⟩ = some (.int .i64 a.f1) := (cell_of hx_ 1).trans rfl; have x2 : wy.cell? ⟨w.heap.size, 2, none⟩ = some (.int .i64 a.f2) := (cell_of hx_ 2).trans rfl; have x3 : wy.cell? ⟨w.heap.size, 3, none⟩ = some (.int .i64 a.f3) := (cell_of hx_ 3).trans rfl; have x4 : wy.cell? ⟨w.heap.size, 4, none⟩ = some (.int .i64 a.f4) := (cell_of hx_ 4).trans rfl; clear hx_)
      go_meet
      exact ⟨rfl, HY⟩
    · obtain ⟨⟨q0, q1⟩, hq⟩ := HSP.out rfl
      obtain ⟨ad, ex, hxa⟩ := Kd.at_int HN.out a.f0 q0 q1
      cases ex
      by_cases h0 : h = 0
      · obtain ⟨k1, k2⟩ := hq h0
        have h0b : (h == 0) = true := beq_iff_eq.mpr h0
        have k1b : decide (rd x a.f0 < lo) = false := decide_eq_false (by omega)
        have k2b : decide (rd x a.f0 > hi) = false := decide_eq_false (by omega)
        clear hq k1 k2 h0
        go_wp2_with (go_at_call 40; refine (FF.out _ HC.out HN.out).mono ?_; rintro e wy ⟨rfl, hb⟩; have HY := Aside0.mk hb; (try replace hxa := pw_cell_below hb hxa); have hx_ := blk_below HX.out hb; clear x0 x1 x2 x3 x4 hb; have x0 : wy.cell? ⟨w.heap.size, 0, none⟩ = some (.int .i64 a.f0) := (cell_of hx_ 0).trans rfl; have x1 : wy.cell? ⟨w.heap.size, 1, none⟩ = some (.int .i64 a.f1) := (cell_of hx_ 1).trans rfl; have x2 : wy.cell? ⟨w.heap.size, 2, none⟩ = some (.int .i64 a.f2) := (cell_of hx_ 2).trans rfl; have x3 : wy.cell? ⟨w.heap.size, 3, none⟩ = some (.int .i64 a.f3) := (cell_of hx_ 3).trans rfl; have x4 : wy.cell? ⟨w.heap.size, 4, none⟩ = some (.int .i64 a.f4) := (cell_of hx_ 4).trans rfl; clear hx_)
        go_meet
        exact ⟨rfl, HY⟩
      · have h0b : (h == 0) = false := beq_eq_false_iff_ne.mpr h0
        clear hq h0
        go_wp2_with (go_at_call 40; refine (FF.out _ HC.out HN.out).mono ?_; rintro e wy ⟨rfl, hb⟩; have HY := Aside0.mk hb; (try replace hxa := pw_cell_below hb hxa); have hx_ := blk_below HX.out hb; clear x0 x1 x2 x3 x4 hb; have x0 : wy.cell? ⟨w.heap.size, 0, none⟩ = some (.int .i64 a.f0) := (cell_of hx_ 0).trans rfl; have x1 : wy.cell? ⟨w.heap.size, 1, none⟩ = some (.int .i64 a.f1) := (cell_of hx_ 1).trans rfl; have x2 : wy.cell? ⟨w.heap.size, 2, none⟩ = some (.int .i64 a.f2) := (cell_of hx_ 2).trans rfl; have x3 : wy.cell? ⟨w.heap.size, 3, none⟩ = some (.int .i64 a.f3) := (cell_of hx_ 3).trans rfl; have x4 : wy.cell? ⟨w.heap.size, 4, none⟩ = some (.int .i64 a.f4) := (cell_of hx_ 4).trans rfl; clear hx_)
        go_meet
        exact ⟨rfl, HY⟩
   case rest =>
   obtain ⟨rfl, HY⟩ := hcut
   have hb := HY.out
   have n0_ := Aside0.mk (below_step HB.out hb)
   clear HB
   have HB := n0_
   clear n0_
   have n1_ := Aside0.mk (Kd.C_below HC.out hb)
   clear HC
   have HC := n1_
   clear n1_
   have n2_ := Aside0.mk (Kd.C_below HN.out hb)
   clear HN
   have HN := n2_
   clear n2_
   have n3_ := Aside0.mk (blk_below HX.out hb)
   clear HX
   have HX := n3_
   clear n3_
   clear hb HY x0 x1 x2 x3 x4
   go_wp2_with (first | (go_at_call 17; refine (sanity_calls _).mono ?_; rintro e wz ⟨rfl, hb⟩; have n0_ := Aside0.mk (below_step HB.out hb); clear HB; have HB := n0_; clear n0_; clear hb))
   go_ret
   exact ⟨rfl, HB.out⟩
 · clear HG
   obtain ⟨q, hqq⟩ : ∃ q, decide (m ≤ a.f4) = q := ⟨_, rfl⟩
   rw [hqq] at hq
   subst hq
   have HQ := Aside0.mk hm
   clear hm
   cases is
   · go_upto_region 8 with (fail)
     go_upto_region 9 with (first | (go_at_call 20; (with_reducible refine (FS.out _ HC.out).mono ?_); rintro e wx ⟨rfl, hb⟩; have n0_ := Aside0.mk (below_step HB.out hb); clear HB; have HB := n0_; clear n0_; have n1_ := Aside0.mk (Kd.C_below HC.out hb); clear HC; have HC := n1_; clear n1_; have n2_ := Aside0.mk (Kd.C_below HN.out hb); clear HN; have HN := n2_; clear n2_; have n3_ := Aside0.mk (blk_below HX.out hb); clear HX; have HX := n3_; clear n3_; clear hb; (try clear x0 x1 x2 x3 x4); have hx_ := HX.out; have x0 : wx.cell? ⟨w.heap.size, 0, none⟩ = some (.int .i64 a.f0) := (cell_of hx_ 0).trans rfl; have x1 : wx.cell? ⟨w.heap.size, 1, none⟩ = some (.int .i64 a.f1) := (cell_of hx_ 1).trans rfl; have x2 : wx.cell? ⟨w.heap.size, 2, none⟩ = some (.int .i64 a.f2) := (cell_of hx_ 2).trans rfl; have x3 : wx.cell? ⟨w.heap.size, 3, none⟩ = some (.int .i64 a.f3) := (cell_of hx_ 3).trans rfl; have x4 : wx.cell? ⟨w.heap.size, 4, none⟩ = some (.int .i64 a.f4) := (cell_of hx_ 4).trans rfl; clear hx_))
     go_cut [142] (fun v142 wc => v142 = .bool false ∧ Aside0 (Below wx.heap.size wx wc))
     case first =>
      cases ft
      · go_wp2_with (go_at_call 40; refine (FF.out _ HC.out HN.out).mono ?_; rintro e wy ⟨rfl, hb⟩; have HY := Aside0.mk hb; (try replace hxa := pw_cell_below hb hxa); have hx_ := blk_below HX.out hb; clear x0 x1 x2 x3 x4 hb; have x0 : wy.cell? ⟨w.heap.size, 0, none⟩ = some (.int .i64 a.f0) := (cell_of hx_ 0).trans rfl; have x1 : wy.cell? ⟨w.heap.size, 1, none⟩ = some (.int .i64 a.f1) := (cell_of hx_ 1).trans rfl; have x2 : wy.cell? ⟨w.heap.size, 2, none⟩ = some (.int .i64 a.f2) := (cell_of hx_ 2).trans rfl; have x3 : wy.cell? ⟨w.heap.size, 3, none⟩ = some (.int .i64 a.f3) := (cell_of hx_ 3).trans rfl; have x4 : wy.cell? ⟨w.heap.size, 4, none⟩ = some (.int .i64 a.f4) := (cell_of hx_ 4).trans rfl; clear hx_)
        go_meet
        exact ⟨rfl, HY⟩
      · obtain ⟨⟨q0, q1⟩, hq⟩ := HSP.out rfl
        obtain ⟨ad, ex, hxa⟩ := Kd.at_int HN.out a.f0 q0 q1
        cases ex
        by_cases h0 : h = 0
        · obtain ⟨k1, k2⟩ := hq h0
          have h0b : (h == 0) = true := beq_iff_eq.mpr h0
          have k1b : decide (rd x a.f0 < lo) = false := decide_eq_false (by omega)
          have k2b : decide (rd x a.f0 > hi) = false := decide_eq_false (by omega)
          clear hq k1 k2 h0
          go_wp2_with (go_at_call 40; refine (FF.out _ HC.out HN.out).mono ?_; rintro e wy ⟨rfl, hb⟩; have HY := Aside0.mk hb; (try replace hxa := pw_cell_below hb hxa); have hx_ := blk_below HX.out hb; clear x0 x1 x2 x3 x4 hb; have x0 : wy.cell? ⟨w.heap.size, 0, none⟩ = some (.int .i64 a.f0) := (cell_of hx_ 0).trans rfl; have x1 : wy.cell? ⟨w.heap.size, 1, none⟩ = some (.int .i64 a.f1) := (cell_of hx_ 1).trans rfl; have x2 : wy.cell? ⟨w.heap.size, 2, none⟩ = some (.int .i64 a.f2) := (cell_of hx_ 2).trans rfl; have x3 : wy.cell? ⟨w.heap.size, 3, none⟩ = some (.int .i64 a.f3) := (cell_of hx_ 3).trans rfl; have x4 : wy.cell? ⟨w.heap.size, 4, none⟩ = some (.int .i64 a.f4) := (cell_of hx_ 4).trans rfl; clear hx_)
          go_meet
          exact ⟨rfl, HY⟩
        · have h0b : (h == 0) = false := beq_eq_false_iff_ne.mpr h0
          clear hq h0
          go_wp2_with (go_at_call 40; refine (FF.out _ HC.out HN.out).mono ?_; rintro e wy ⟨rfl, hb⟩; have HY := Aside0.mk hb; (try replace hxa := pw_cell_below hb hxa); have hx_ := blk_below HX.out hb; clear x0 x1 x2 x3 x4 hb; have x0 : wy.cell? ⟨w.heap.size, 0, none⟩ = some (.int .i64 a.f0) := (cell_of hx_ 0).trans rfl; have x1 : wy.cell? ⟨w.heap.size, 1, none⟩ = some (.int .i64 a.f1) := (cell_of hx_ 1).trans rfl; have x2 : wy.cell? ⟨w.heap.size, 2, none⟩ = some (.int .i64 a.f2) := (cell_of hx_ 2).trans rfl; have x3 : wy.cell? ⟨w.heap.size, 3, none⟩ = some (.int .i64 a.f3) := (cell_of hx_ 3).trans rfl; have x4 : wy.cell? ⟨w.heap.size, 4, none⟩ = some (.int .i64 a.f4) := (cell_of hx_ 4).trans rfl; clear hx_)
          go_meet
          exact ⟨rfl, HY⟩
     case rest =>
     obtain ⟨rfl, HY⟩ := hcut
     have hb := HY.out
     have n0_ := Aside0.mk (below_step HB.out hb)
     clear HB
     have HB := n0_
     clear n0_
     have n1_ := Aside0.mk (Kd.C_below HC.out hb)
     clear HC
     have HC := n1_
     clear n1_
     have n2_ := Aside0.mk (Kd.C_below HN.out hb)
     clear HN
     have HN := n2_
     clear n2_
     have n3_ := Aside0.mk (blk_below HX.out hb)
     clear HX
     have HX := n3_
     clear n3_
     clear hb HY x0 x1 x2 x3 x4
     rcases HQ.out with hm | hm
     · have m1b : decide (m < -1000000) = true := decide_eq_true hm
       clear hm
       go_wp2_with (first | (go_at_call 17; refine (sanity_calls _).mono ?_; rintro e wz ⟨rfl, hb⟩; have n0_ := Aside0.mk (below_step HB.out hb); clear HB; have HB := n0_; clear n0_; clear hb))
       go_ret
       exact ⟨rfl, HB.out⟩
     · have m1b : decide (m < -1000000) = false := decide_eq_false (by omega)
       have m2b : decide (m ≥ 1000000) = true := decide_eq_true hm
       clear hm
       go_wp2_with (first | (go_at_call 17; refine (sanity_calls _).mono ?_; rintro e wz ⟨rfl, hb⟩; have n0_ := Aside0.mk (below_step HB.out hb); clear HB; have HB := n0_; clear n0_; clear hb))
       go_ret
       exact ⟨rfl, HB.out⟩
   · go_upto_region 8 with (fail)
     go_upto_region 9 with (first | (go_at_call 20; (with_reducible refine (FS.out _ HC.out).mono ?_); rintro e wx ⟨rfl, hb⟩; have n0_ := Aside0.mk (below_step HB.out hb); clear HB; have HB := n0_; clear n0_; have n1_ := Aside0.mk (Kd.C_below HC.out hb); clear HC; have HC := n1_; clear n1_; have n2_ := Aside0.mk (Kd.C_below HN.out hb); clear HN; have HN := n2_; clear n2_; have n3_ := Aside0.mk (blk_below HX.out hb); clear HX; have HX := n3_; clear n3_; clear hb; (try clear x0 x1 x2 x3 x4); have hx_ := HX.out; have x0 : wx.cell? ⟨w.heap.size, 0, none⟩ = some (.int .i64 a.f0) := (cell_of hx_ 0).trans rfl; have x1 : wx.cell? ⟨w.heap.size, 1, none⟩ = some (.int .i64 a.f1) := (cell_of hx_ 1).trans rfl; have x2 : wx.cell? ⟨w.heap.size, 2, none⟩ = some (.int .i64 a.f2) := (cell_of hx_ 2).trans rfl; have x3 : wx.cell? ⟨w.heap.size, 3, none⟩ = some (.int .i64 a.f3) := (cell_of hx_ 3).trans rfl; have x4 : wx.cell? ⟨w.heap.size, 4, none⟩ = some (.int .i64 a.f4) := (cell_of hx_ 4).trans rfl; clear hx_))
     go_cut [142] (fun v142 wc => v142 = .bool false ∧ Aside0 (Below wx.heap.size wx wc))
     case first =>
      cases ft
      · go_wp2_with (go_at_call 40; refine (FF.out _ HC.out HN.out).mono ?_; rintro e wy ⟨rfl, hb⟩; have HY := Aside0.mk hb; (try replace hxa := pw_cell_below hb hxa); have hx_ := blk_below HX.out hb; clear x0 x1 x2 x3 x4 hb; have x0 : wy.cell? ⟨w.heap.size, 0, none⟩ = some (.int .i64 a.f0) := (cell_of hx_ 0).trans rfl; have x1 : wy.cell? ⟨w.heap.size, 1, none⟩ = some (.int .i64 a.f1) := (cell_of hx_ 1).trans rfl; have x2 : wy.cell? ⟨w.heap.size, 2, none⟩ = some (.int .i64 a.f2) := (cell_of hx_ 2).trans rfl; have x3 : wy.cell? ⟨w.heap.size, 3, none⟩ = some (.int .i64 a.f3) := (cell_of hx_ 3).trans rfl; have x4 : wy.cell? ⟨w.heap.size, 4, none⟩ = some (.int .i64 a.f4) := (cell_of hx_ 4).trans rfl; clear hx_)
        go_meet
        exact ⟨rfl, HY⟩
      · obtain ⟨⟨q0, q1⟩, hq⟩ := HSP.out rfl
        obtain ⟨ad, ex, hxa⟩ := Kd.at_int HN.out a.f0 q0 q1
        cases ex
        by_cases h0 : h = 0
        · obtain ⟨k1, k2⟩ := hq h0
          have h0b : (h == 0) = true := beq_iff_eq.mpr h0
          have k1b : decide (rd x a.f0 < lo) = false := decide_eq_false (by omega)
          have k2b : decide (rd x a.f0 > hi) = false := decide_eq_false (by omega)
          clear hq k1 k2 h0
          go_wp2_with (go_at_call 40; refine (FF.out _ HC.out HN.out).mono ?_; rintro e wy ⟨rfl, hb⟩; have HY := Aside0.mk hb; (try replace hxa := pw_cell_below hb hxa); have hx_ := blk_below HX.out hb; clear x0 x1 x2 x3 x4 hb; have x0 : wy.cell? ⟨w.heap.size, 0, none⟩ = some (.int .i64 a.f0) := (cell_of hx_ 0).trans rfl; have x1 : wy.cell? ⟨w.heap.size, 1, none⟩ = some (.int .i64 a.f1) := (cell_of hx_ 1).trans rfl; have x2 : wy.cell? ⟨w.heap.size, 2, none⟩ = some (.int .i64 a.f2) := (cell_of hx_ 2).trans rfl; have x3 : wy.cell? ⟨w.heap.size, 3, none⟩ = some (.int .i64 a.f3) := (cell_of hx_ 3).trans rfl; have x4 : wy.cell? ⟨w.heap.size, 4, none⟩ = some (.int .i64 a.f4) := (cell_of hx_ 4).trans rfl; clear hx_)
          go_meet
          exact ⟨rfl, HY⟩
        · have h0b : (h == 0) = false := beq_eq_false_iff_ne.mpr h0
          clear hq h0
          go_wp2_with (go_at_call 40; refine (FF.out _ HC.out HN.out).mono ?_; rintro e wy ⟨rfl, hb⟩; have HY := Aside0.mk hb; (try replace hxa := pw_cell_below hb hxa); have hx_ := blk_below HX.out hb; clear x0 x1 x2 x3 x4 hb; have x0 : wy.cell? ⟨w.heap.size, 0, none⟩ = some (.int .i64 a.f0) := (cell_of hx_ 0).trans rfl; have x1 : wy.cell? ⟨w.heap.size, 1, none⟩ = some (.int .i64 a.f1) := (cell_of hx_ 1).trans rfl; have x2 : wy.cell? ⟨w.heap.size, 2, none⟩ = some (.int .i64 a.f2) := (cell_of hx_ 2).trans rfl; have x3 : wy.cell? ⟨w.heap.size, 3, none⟩ = some (.int .i64 a.f3) := (cell_of hx_ 3).trans rfl; have x4 : wy.cell? ⟨w.heap.size, 4, none⟩ = some (.int .i64 a.f4) := (cell_of hx_ 4).trans rfl; clear hx_)
          go_meet
          exact ⟨rfl, HY⟩
     case rest =>
     obtain ⟨rfl, HY⟩ := hcut
     have hb := HY.out
     have n0_ := Aside0.mk (below_step HB.out hb)
     clear HB
     have HB := n0_
     clear n0_
     have n1_ := Aside0.mk (Kd.C_below HC.out hb)
     clear HC
     have HC := n1_
     clear n1_
     have n2_ := Aside0.mk (Kd.C_below HN.out hb)
     clear HN
     have HN := n2_
     clear n2_
     have n3_ := Aside0.mk (blk_below HX.out hb)
     clear HX
     have HX := n3_
     clear n3_
     clear hb HY x0 x1 x2 x3 x4
     rcases HQ.out with hm | hm
     · have m1b : decide (m < -1000000) = true := decide_eq_true hm
       clear hm
       go_wp2_with (first | (go_at_call 17; refine (sanity_calls _).mono ?_; rintro e wz ⟨rfl, hb⟩; have n0_ := Aside0.mk (below_step HB.out hb); clear HB; have HB := n0_; clear n0_; clear hb))
       go_ret
       exact ⟨rfl, HB.out⟩
     · have m1b : decide (m < -1000000) = false := decide_eq_false (by omega)
       have m2b : decide (m ≥ 1000000) = true := decide_eq_true hm
       clear hm
       go_wp2_with (first | (go_at_call 17; refine (sanity_calls _).mono ?_; rintro e wz ⟨rfl, hb⟩; have n0_ := Aside0.mk (below_step HB.out hb); clear HB; have HB := n0_; clear n0_; clear hb))
       go_ret
       exact ⟨rfl, HB.out⟩
set_option maxRecDepth 100000 in
set_option maxHeartbeats 4000000 in
theorem great_6 (n : Int) (A : Option Addr) (c : Nat) (l : List S24) (a : S24) (B : Option Addr) (d : Nat) (x : List Int) (w : World) (hr : Kd.C k24 w A l.length l) (hc : l.length ≤ c) (hr2 : Kd.C (Kd.int .i64) w B x.length x) (hd : x.length ≤ d) (hk : (checkE n l == 0) = true) (h38 : l.length ≤ 38) (h20 : x.length ≤ 20) (hk2 : (checkE n [a] == 0) = true) (is sm ft : Bool) (m g lo hi h : Int)
 (FE : Aside0 (∀ (W : World), Kd.C k24 W A l.length l → Calls Try.prog 25 #[.int .i64 n, .slice A l.length c, .agg #[.int .i64 a.f0, .int .i64 a.f1, .int .i64 a.f2, .int .i64 a.f3, .int .i64 a.f4]] W fun e w' => e = .returned (.tuple #[.bool is, .int .i64 0]) ∧ Below W.heap.size W w')) (FP : Aside0 (∀ (W : World), Kd.C k24 W A l.length l → Calls Try.prog 24 #[.int .i64 n, .slice A l.length c] W fun e w' => e = .returned (.tuple #[.bool sm, .int .i64 0]) ∧ Below W.heap.size W w')) (FM : Aside0 (∀ (W : World), Kd.C k24 W A l.length l → Calls Try.prog 18 #[.int .i64 n, .slice A l.length c, .agg #[.int .i64 a.f0, .int .i64 a.f1, .int .i64 a.f2, .int .i64 a.f3, .int .i64 a.f4]] W fun e w' => e = .returned (.tuple #[.int .i64 m, .int .i64 g]) ∧ Below W.heap.size W w')) (FS : Aside0 (∀ (W : World), Kd.C k24 W A l.length l → Calls Try.prog 20 #[.int .i64 n, .slice A l.length c, .int .i64 a.f0] W fun e w' => e = .returned (.tuple #[.int .i64 lo, .int .i64 hi, .int .i64 h]) ∧ Below W.heap.size W w')) (FF : Aside0 (∀ (W : World), Kd.C k24 W A l.length l → Kd.C (Kd.int .i64) W B x.length x → Calls Try.prog 40 #[.int .i64 n, .slice A l.length c, .slice B x.length d] W fun e w' => e = .returned (.bool ft) ∧ Below W.heap.size W w'))
 (hsp : ft = true → (0 ≤ a.f0 ∧ a.f0 < x.length) ∧ (h = 0 → ¬ rd x a.f0 < lo ∧ ¬ rd x a.f0 > hi))
 (hg : sm = true ∧ g = 0 ∧ is = decide (m ≤ a.f4)) (hm1 : ¬ m < -1000000) (hm2 : ¬ m ≥ 1000000) (hp1 : a.f1 = 1 ∨ a.f1 = -1) (hp3 : a.f3 = 0 ∨ a.f3 = 1 ∨ a.f3 = -1) (M1 M2 M3 : List S24)
 (FO : Aside0 (∀ (W : World), Calls Try.prog 41 #[.int .i64 n, .agg #[.int .i64 a.f0, .int .i64 a.f1, .int .i64 a.f2, .int .i64 a.f3, .int .i64 m]] W fun e w' => e = .returned (.tuple #[.agg #[.int .i64 a.f0, .int .i64 (-a.f1), .int .i64 a.f2, .int .i64 (-a.f3), .int .i64 (-m - 1)], .int .i64 0]) ∧ Below W.heap.size W w'))
 (HW1 : Aside0 (cosignerlaw12_with.f l a.f0 (-a.f1) a.f2 (-a.f3) (-m - 1) = some M1)) (HW2 : Aside0 (cosignerlaw12_with.f l a.f0 a.f1 a.f2 a.f3 m = some M2)) (HW3 : Aside0 (cosignerlaw12_with.f M2 a.f0 (-a.f1) a.f2 (-a.f3) (-m) = some M3))
 (FN1 : Aside0 (∀ (W : World) (A' : Option Addr) (c' : Nat), Kd.C k24 W A' M1.length M1 → M1.length ≤ c' → Calls Try.prog 24 #[.int .i64 n, .slice A' M1.length c'] W fun e w' => e = .returned (.tuple #[.bool false, .int .i64 0]) ∧ Below W.heap.size W w'))
 (FN3 : Aside0 (∀ (W : World) (A' : Option Addr) (c' : Nat), Kd.C k24 W A' M3.length M3 → M3.length ≤ c' → Calls Try.prog 24 #[.int .i64 n, .slice A' M3.length c'] W fun e w' => e = .returned (.tuple #[.bool true, .int .i64 0]) ∧ Below W.heap.size W w'))
 (FJ : Aside0 (ft = true → ∀ (W : World) (A' : Option Addr) (c' : Nat), Kd.C k24 W A' [jst a m].length [jst a m] → [jst a m].length ≤ c' → Kd.C (Kd.int .i64) W B x.length x → Calls Try.prog 40 #[.int .i64 n, .slice A' [jst a m].length c', .slice B x.length d] W fun e w' => e = .returned (.bool true) ∧ Below W.heap.size W w')) :
 Calls Try.prog 10 #[.int .i64 n, .slice A l.length c, .agg #[.int .i64 a.f0, .int .i64 a.f1, .int .i64 a.f2, .int .i64 a.f3, .int .i64 a.f4], .slice B x.length d] w fun e w' => e = .returned (.bool true) ∧ Below w.heap.size w w' := by
 have hu24 := Try.underlying24
 have hb0 := (Below.refl _ w).alloc (Nat.le_refl _) (.cells #[.int .i64 a.f0, .int .i64 a.f1, .int .i64 a.f2, .int .i64 a.f3, .int .i64 a.f4] 24)
 have HC := Aside0.mk (Kd.C_below hr hb0)
 have HN := Aside0.mk (Kd.C_below hr2 hb0)
 have HB := Aside0.mk hb0
 have HX := Aside0.mk (heap1_0 w (.cells #[.int .i64 a.f0, .int .i64 a.f1, .int .i64 a.f2, .int .i64 a.f3, .int .i64 a.f4] 24))
 clear hr hr2 hb0
 have HK := Aside0.mk hk
 have HK2 := Aside0.mk hk2
 have HSP := Aside0.mk hsp
 have hd1 : decide ((l.length : Int) > 38) = false := decide_eq_false (by omega)
 have hd2 : decide ((x.length : Int) > 20) = false := decide_eq_false (by omega)
 clear hk hk2 hsp
 have HG := Aside0.mk hg
 have m1b : decide (m < -1000000) = false := decide_eq_false hm1
 have m2b : decide (m ≥ 1000000) = false := decide_eq_false hm2
 have hw1 : IntKind.i64.wrap (-a.f1) = -a.f1 := iw (by omega) (by omega)
 have hw3 : IntKind.i64.wrap (-a.f3) = -a.f3 := iw (by omega) (by omega)
 have hwm : IntKind.i64.wrap (-m) = -m := iw (by omega) (by omega)
 clear hg hm1 hm2 hp1 hp3
 go_enter Try.func10, Try.ntmps10
 go_upto_region 1 with (fail)
 generalize (w.alloc (.cells #[.int .i64 a.f0, .int .i64 a.f1, .int .i64 a.f2, .int .i64 a.f3, .int .i64 a.f4] 24)) = w0 at *
 go_upto_region 3 with (first | (go_at_call 22; (with_reducible refine (lright_calls n A c l _ HC.out hc).mono ?_); rw [HK.out]; rintro e wx ⟨rfl, hb⟩; have n0_ := Aside0.mk (below_step HB.out hb); clear HB; have HB := n0_; clear n0_; have n1_ := Aside0.mk (Kd.C_below HC.out hb); clear HC; have HC := n1_; clear n1_; have n2_ := Aside0.mk (Kd.C_below HN.out hb); clear HN; have HN := n2_; clear n2_; have n3_ := Aside0.mk (blk_below HX.out hb); clear HX; have HX := n3_; clear n3_; clear hb; (try clear x0 x1 x2 x3 x4); have hx_ := HX.out; have x0 : wx.cell? ⟨w.heap.size, 0, none⟩ = some (.int .i64 a.f0) := (cell_of hx_ 0).trans rfl; have x1 : wx.cell? ⟨w.heap.size, 1, none⟩ = some (.int .i64 a.f1) := (cell_of hx_ 1).trans rfl; have x2 : wx.cell? ⟨w.heap.size, 2, none⟩ = some (.int .i64 a.f2) := (cell_of hx_ 2).trans rfl; have x3 : wx.cell? ⟨w.heap.size, 3, none⟩ = some (.int .i64 a.f3) := (cell_of hx_ 3).trans rfl; have x4 : wx.cell? ⟨w.heap.size, 4, none⟩ = some (.int .i64 a.f4) := (cell_of hx_ 4).trans rfl; clear hx_) | (go_at_call 22; refine (lright_calls n _ 1 [a] _ (single24 _ a) (by simp)).mono ?_; rw [HK2.out]; rintro e wx ⟨rfl, hb2⟩; have hb := below_step ((Below.refl _ _).alloc (Nat.le_refl _) (.cells #[.int .i64 a.f0, .int .i64 a.f1, .int .i64 a.f2, .int .i64 a.f3, .int .i64 a.f4] 24)) hb2; have n0_ := Aside0.mk (below_step HB.out hb); clear HB; have HB := n0_; clear n0_; have n1_ := Aside0.mk (Kd.C_below HC.out hb); clear HC; have HC := n1_; clear n1_; have n2_ := Aside0.mk (Kd.C_below HN.out hb); clear HN; have HN := n2_; clear n2_; have n3_ := Aside0.mk (blk_below HX.out hb); clear HX; have HX := n3_; clear n3_; clear hb hb2; (try clear x0 x1 x2 x3 x4); have hx_ := HX.out; have x0 : wx.cell? ⟨w.heap.size, 0, none⟩ = some (.int .i64 a.f0) := (cell_of hx_ 0).trans rfl; have x1 : wx.cell? ⟨w.heap.size, 1, none⟩ = some (.int .i64 a.f1) := (cell_of hx_ 1).trans rfl; have x2 : wx.cell? ⟨w.heap.size, 2, none⟩ = some (.int .i64 a.f2) := (cell_of hx_ 2).trans rfl; have x3 : wx.cell? ⟨w.heap.size, 3, none⟩ = some (.int .i64 a.f3) := (cell_of hx_ 3).trans rfl; have x4 : wx.cell? ⟨w.heap.size, 4, none⟩ = some (.int .i64 a.f4) := (cell_of hx_ 4).trans rfl; clear hx_))
 go_upto_region 6 with (first | (go_at_call 25; (with_reducible refine (FE.out _ HC.out).mono ?_); rintro e wx ⟨rfl, hb⟩; have n0_ := Aside0.mk (below_step HB.out hb); clear HB; have HB := n0_; clear n0_; have n1_ := Aside0.mk (Kd.C_below HC.out hb); clear HC; have HC := n1_; clear n1_; have n2_ := Aside0.mk (Kd.C_below HN.out hb); clear HN; have HN := n2_; clear n2_; have n3_ := Aside0.mk (blk_below HX.out hb); clear HX; have HX := n3_; clear n3_; clear hb; (try clear x0 x1 x2 x3 x4); have hx_ := HX.out; have x0 : wx.cell? ⟨w.heap.size, 0, none⟩ = some (.int .i64 a.f0) := (cell_of hx_ 0).trans rfl; have x1 : wx.cell? ⟨w.heap.size, 1, none⟩ = some (.int .i64 a.f1) := (cell_of hx_ 1).trans rfl; have x2 : wx.cell? ⟨w.heap.size, 2, none⟩ = some (.int .i64 a.f2) := (cell_of hx_ 2).trans rfl; have x3 : wx.cell? ⟨w.heap.size, 3, none⟩ = some (.int .i64 a.f3) := (cell_of hx_ 3).trans rfl; have x4 : wx.cell? ⟨w.heap.size, 4, none⟩ = some (.int .i64 a.f4) := (cell_of hx_ 4).trans rfl; clear hx_) | (go_at_call 24; (with_reducible refine (FP.out _ HC.out).mono ?_); rintro e wx ⟨rfl, hb⟩; have n0_ := Aside0.mk (below_step HB.out hb); clear HB; have HB := n0_; clear n0_; have n1_ := Aside0.mk (Kd.C_below HC.out hb); clear HC; have HC := n1_; clear n1_; have n2_ := Aside0.mk (Kd.C_below HN.out hb); clear HN; have HN := n2_; clear n2_; have n3_ := Aside0.mk (blk_below HX.out hb); clear HX; have HX := n3_; clear n3_; clear hb; (try clear x0 x1 x2 x3 x4); have hx_ := HX.out; have x0 : wx.cell? ⟨w.heap.size, 0, none⟩ = some (.int .i64 a.f0) := (cell_of hx_ 0).trans rfl; have x1 : wx.cell? ⟨w.heap.size, 1, none⟩ = some (.int .i64 a.f1) := (cell_of hx_ 1).trans rfl; have x2 : wx.cell? ⟨w.heap.size, 2, none⟩ = some (.int .i64 a.f2) := (cell_of hx_ 2).trans rfl; have x3 : wx.cell? ⟨w.heap.size, 3, none⟩ = some (.int .i64 a.f3) := (cell_of hx_ 3).trans rfl; have x4 : wx.cell? ⟨w.heap.size, 4, none⟩ = some (.int .i64 a.f4) := (cell_of hx_ 4).trans rfl; clear hx_) | (go_at_call 18; (with_reducible refine (FM.out _ HC.out).mono ?_); rintro e wx ⟨rfl, hb⟩; have n0_ := Aside0.mk (below_step HB.out hb); clear HB; have HB := n0_; clear n0_; have n1_ := Aside0.mk (Kd.C_below HC.out hb); clear HC; have HC := n1_; clear n1_; have n2_ := Aside0.mk (Kd.C_below HN.out hb); clear HN; have HN := n2_; clear n2_; have n3_ := Aside0.mk (blk_below HX.out hb); clear HX; have HX := n3_; clear n3_; clear hb; (try clear x0 x1 x2 x3 x4); have hx_ := HX.out; have x0 : wx.cell? ⟨w.heap.size, 0, none⟩ = some (.int .i64 a.f0) := (cell_of hx_ 0).trans rfl; have x1 : wx.cell? ⟨w.heap.size, 1, none⟩ = some (.int .i64 a.f1) := (cell_of hx_ 1).trans rfl; have x2 : wx.cell? ⟨w.heap.size, 2, none⟩ = some (.int .i64 a.f2) := (cell_of hx_ 2).trans rfl; have x3 : wx.cell? ⟨w.heap.size, 3, none⟩ = some (.int .i64 a.f3) := (cell_of hx_ 3).trans rfl; have x4 : wx.cell? ⟨w.heap.size, 4, none⟩ = some (.int .i64 a.f4) := (cell_of hx_ 4).trans rfl; clear hx_))
 obtain ⟨rfl, rfl, hq⟩ := HG.out
 have hqq : decide (m ≤ a.f4) = is := hq.symm
 clear hq HG
 go_cut [95] (fun v95 wc => v95 = .bool false ∧ Aside0 (Below wx.heap.size wx wc))
 case first =>
  cases is
  · go_wp2_with fail
    go_meet
    exact ⟨rfl, ⟨Below.refl _ _⟩⟩
  · go_wp2_with fail
    go_meet
    exact ⟨rfl, ⟨Below.refl _ _⟩⟩
 case rest =>
 obtain ⟨wx, hw_⟩ : ∃ z, z = wc := ⟨_, rfl⟩
 subst hw_
 obtain ⟨rfl, HY⟩ := hcut
 have hb := HY.out
 have n0_ := Aside0.mk (below_step HB.out hb)
 clear HB
 have HB := n0_
 clear n0_
 have n1_ := Aside0.mk (Kd.C_below HC.out hb)
 clear HC
 have HC := n1_
 clear n1_
 have n2_ := Aside0.mk (Kd.C_below HN.out hb)
 clear HN
 have HN := n2_
 clear n2_
 have n3_ := Aside0.mk (blk_below HX.out hb)
 clear HX
 have HX := n3_
 clear n3_
 clear hb HY hqq x0 x1 x2 x3 x4
 have hx_ := HX.out
 have x0 : wx.cell? ⟨w.heap.size, 0, none⟩ = some (.int .i64 a.f0) := (cell_of hx_ 0).trans rfl
 have x1 : wx.cell? ⟨w.heap.size, 1, none⟩ = some (.int .i64 a.f1) := (cell_of hx_ 1).trans rfl
 have x2 : wx.cell? ⟨w.heap.size, 2, none⟩ = some (.int .i64 a.f2) := (cell_of hx_ 2).trans rfl
 have x3 : wx.cell? ⟨w.heap.size, 3, none⟩ = some (.int .i64 a.f3) := (cell_of hx_ 3).trans rfl
 have x4 : wx.cell? ⟨w.heap.size, 4, none⟩ = some (.int .i64 a.f4) := (cell_of hx_ 4).trans rfl
 clear hx_
 go_upto_region 9 with (first | (go_at_call 20; (with_reducible refine (FS.out _ HC.out).mono ?_); rintro e wx ⟨rfl, hb⟩; have n0_ := Aside0.mk (below_step HB.out hb); clear HB; have HB := n0_; clear n0_; have n1_ := Aside0.mk (Kd.C_below HC.out hb); clear HC; have HC := n1_; clear n1_; have n2_ := Aside0.mk (Kd.C_below HN.out hb); clear HN; have HN := n2_; clear n2_; have n3_ := Aside0.mk (blk_below HX.out hb); clear HX; have HX := n3_; clear n3_; clear hb; (try clear x0 x1 x2 x3 x4); have hx_ := HX.out; have x0 : wx.cell? ⟨w.heap.size, 0, none⟩ = some (.int .i64 a.f0) := (cell_of hx_ 0).trans rfl; have x1 : wx.cell? ⟨w.heap.size, 1, none⟩ = some (.int .i64 a.f1) := (cell_of hx_ 1).trans rfl; have x2 : wx.cell? ⟨w.heap.size, 2, none⟩ = some (.int .i64 a.f2) := (cell_of hx_ 2).trans rfl; have x3 : wx.cell? ⟨w.heap.size, 3, none⟩ = some (.int .i64 a.f3) := (cell_of hx_ 3).trans rfl; have x4 : wx.cell? ⟨w.heap.size, 4, none⟩ = some (.int .i64 a.f4) := (cell_of hx_ 4).trans rfl; clear hx_))
 go_cut [142] (fun v142 wc => v142 = .bool false ∧ Aside0 (Below wx.heap.size wx wc))
 case first =>
  cases ft
  · go_wp2_with (go_at_call 40; refine (FF.out _ HC.out HN.out).mono ?_; rintro e wy ⟨rfl, hb⟩; have HY := Aside0.mk hb; (try replace hxa := pw_cell_below hb hxa); have hx_ := blk_below HX.out hb; clear x0 x1 x2 x3 x4 hb; have x0 : wy.cell? ⟨w.heap.size, 0, none⟩ = some (.int .i64 a.f0) := (cell_of hx_ 0).trans rfl; have x1 : wy.cell? ⟨w.heap.size, 1, none⟩ = some (.int .i64 a.f1) := (cell_of hx_ 1).trans rfl; have x2 : wy.cell? ⟨w.heap.size, 2, none⟩ = some (.int .i64 a.f2) := (cell_of hx_ 2).trans rfl; have x3 : wy.cell? ⟨w.heap.size, 3, none⟩ = some (.int .i64 a.f3) := (cell_of hx_ 3).trans rfl; have x4 : wy.cell? ⟨w.heap.size, 4, none⟩ = some (.int .i64 a.f4) := (cell_of hx_ 4).trans rfl; clear hx_)
    go_meet
    exact ⟨rfl, HY⟩
  · obtain ⟨⟨q0, q1⟩, hq⟩ := HSP.out rfl
    obtain ⟨ad, ex, hxa⟩ := Kd.at_int HN.out a.f0 q0 q1
    cases ex
    by_cases h0 : h = 0
    · obtain ⟨k1, k2⟩ := hq h0
      have h0b : (h == 0) = true := beq_iff_eq.mpr h0
      have k1b : decide (rd x a.f0 < lo) = false := decide_eq_false (by omega)
      have k2b : decide (rd x a.f0 > hi) = false := decide_eq_false (by omega)
      clear hq k1 k2 h0
      go_wp2_with (go_at_call 40; refine (FF.out _ HC.out HN.out).mono ?_; rintro e wy ⟨rfl, hb⟩; have HY := Aside0.mk hb; (try replace hxa := pw_cell_below hb hxa); have hx_ := blk_below HX.out hb; clear x0 x1 x2 x3 x4 hb; have x0 : wy.cell? ⟨w.heap.size, 0, none⟩ = some (.int .i64 a.f0) := (cell_of hx_ 0).trans rfl; have x1 : wy.cell? ⟨w.heap.size, 1, none⟩ = some (.int .i64 a.f1) := (cell_of hx_ 1).trans rfl; have x2 : wy.cell? ⟨w.heap.size, 2, none⟩ = some (.int .i64 a.f2) := (cell_of hx_ 2).trans rfl; have x3 : wy.cell? ⟨w.heap.size, 3, none⟩ = some (.int .i64 a.f3) := (cell_of hx_ 3).trans rfl; have x4 : wy.cell? ⟨w.heap.size, 4, none⟩ = some (.int .i64 a.f4) := (cell_of hx_ 4).trans rfl; clear hx_)
      go_meet
      exact ⟨rfl, HY⟩
    · have h0b : (h == 0) = false := beq_eq_false_iff_ne.mpr h0
      clear hq h0
      go_wp2_with (go_at_call 40; refine (FF.out _ HC.out HN.out).mono ?_; rintro e wy ⟨rfl, hb⟩; have HY := Aside0.mk hb; (try replace hxa := pw_cell_below hb hxa); have hx_ := blk_below HX.out hb; clear x0 x1 x2 x3 x4 hb; have x0 : wy.cell? ⟨w.heap.size, 0, none⟩ = some (.int .i64 a.f0) := (cell_of hx_ 0).trans rfl; have x1 : wy.cell? ⟨w.heap.size, 1, none⟩ = some (.int .i64 a.f1) := (cell_of hx_ 1).trans rfl; have x2 : wy.cell? ⟨w.heap.size, 2, none⟩ = some (.int .i64 a.f2) := (cell_of hx_ 2).trans rfl; have x3 : wy.cell? ⟨w.heap.size, 3, none⟩ = some (.int .i64 a.f3) := (cell_of hx_ 3).trans rfl; have x4 : wy.cell? ⟨w.heap.size, 4, none⟩ = some (.int .i64 a.f4) := (cell_of hx_ 4).trans rfl; clear hx_)
      go_meet
      exact ⟨rfl, HY⟩
 case rest =>
 obtain ⟨rfl, HY⟩ := hcut
 have hb := HY.out
 have n0_ := Aside0.mk (below_step HB.out hb)
 clear HB
 have HB := n0_
 clear n0_
 have n1_ := Aside0.mk (Kd.C_below HC.out hb)
 clear HC
 have HC := n1_
 clear n1_
 have n2_ := Aside0.mk (Kd.C_below HN.out hb)
 clear HN
 have HN := n2_
 clear n2_
 have n3_ := Aside0.mk (blk_below HX.out hb)
 clear HX
 have HX := n3_
 clear n3_
 clear hb HY x0 x1 x2 x3 x4
 obtain ⟨wx, hw_⟩ : ∃ z, z = wc := ⟨_, rfl⟩
 subst hw_
 have hx_ := HX.out
 have x0 : wx.cell? ⟨w.heap.size, 0, none⟩ = some (.int .i64 a.f0) := (cell_of hx_ 0).trans rfl
 have x1 : wx.cell? ⟨w.heap.size, 1, none⟩ = some (.int .i64 a.f1) := (cell_of hx_ 1).trans rfl
 have x2 : wx.cell? ⟨w.heap.size, 2, none⟩ = some (.int .i64 a.f2) := (cell_of hx_ 2).trans rfl
 have x3 : wx.cell? ⟨w.heap.size, 3, none⟩ = some (.int .i64 a.f3) := (cell_of hx_ 3).trans rfl
 have x4 : wx.cell? ⟨w.heap.size, 4, none⟩ = some (.int .i64 a.f4) := (cell_of hx_ 4).trans rfl
 clear hx_
 go_upto_region 15 with (fail)
 have hJ := heap1_0 wx (.cells #[.int .i64 a.f0, .int .i64 a.f1, .int .i64 a.f2, .int .i64 a.f3, .int .i64 m] 24)
 have hb := (Below.refl _ wx).alloc (Nat.le_refl _) (.cells #[.int .i64 a.f0, .int .i64 a.f1, .int .i64 a.f2, .int .i64 a.f3, .int .i64 m] 24)
 have HJ := Aside0.mk hJ
 have n0_ := Aside0.mk (below_step HB.out hb)
 clear HB
 have HB := n0_
 clear n0_
 have n1_ := Aside0.mk (Kd.C_below HC.out hb)
 clear HC
 have HC := n1_
 clear n1_
 have n2_ := Aside0.mk (Kd.C_below HN.out hb)
 clear HN
 have HN := n2_
 clear n2_
 have n3_ := Aside0.mk (blk_below HX.out hb)
 clear HX
 have HX := n3_
 clear n3_
 clear hJ hb x0 x1 x2 x3 x4
 generalize (wx.alloc (.cells #[.int .i64 a.f0, .int .i64 a.f1, .int .i64 a.f2, .int .i64 a.f3, .int .i64 m] 24)) = w15 at *
 generalize wx.heap.size = g18 at *
 have hj_ := HJ.out
 have j0 : w15.cell? ⟨g18, 0, none⟩ = some (.int .i64 a.f0) := (cell_of hj_ 0).trans rfl
 have j1 : w15.cell? ⟨g18, 1, none⟩ = some (.int .i64 a.f1) := (cell_of hj_ 1).trans rfl
 have j2 : w15.cell? ⟨g18, 2, none⟩ = some (.int .i64 a.f2) := (cell_of hj_ 2).trans rfl
 have j3 : w15.cell? ⟨g18, 3, none⟩ = some (.int .i64 a.f3) := (cell_of hj_ 3).trans rfl
 have j4 : w15.cell? ⟨g18, 4, none⟩ = some (.int .i64 m) := (cell_of hj_ 4).trans rfl
 clear hj_
 go_upto_region 18 with (go_at_call 41; refine (FO.out _).mono ?_; rintro e wo ⟨rfl, hb⟩; have n0_ := Aside0.mk (below_step HB.out hb); clear HB; have HB := n0_; clear n0_; have n1_ := Aside0.mk (Kd.C_below HC.out hb); clear HC; have HC := n1_; clear n1_; have n2_ := Aside0.mk (Kd.C_below HN.out hb); clear HN; have HN := n2_; clear n2_; have n3_ := Aside0.mk (blk_below HX.out hb); clear HX; have HX := n3_; clear n3_; have n4_ := Aside0.mk (blk_below HJ.out hb); clear HJ; have HJ := n4_; clear n4_; clear hb j0 j1 j2 j3 j4)
 have hO := heap1_0 wo (.cells #[.int .i64 a.f0, .int .i64 (-a.f1), .int .i64 a.f2, .int .i64 (-a.f3), .int .i64 (-m - 1)] 24)
 have hb := (Below.refl _ wo).alloc (Nat.le_refl _) (.cells #[.int .i64 a.f0, .int .i64 (-a.f1), .int .i64 a.f2, .int .i64 (-a.f3), .int .i64 (-m - 1)] 24)
 have n0_ := Aside0.mk (below_step HB.out hb)
 clear HB
 have HB := n0_
 clear n0_
 have n1_ := Aside0.mk (Kd.C_below HC.out hb)
 clear HC
 have HC := n1_
 clear n1_
 have n2_ := Aside0.mk (Kd.C_below HN.out hb)
 clear HN
 have HN := n2_
 clear n2_
 have n3_ := Aside0.mk (blk_below HX.out hb)
 clear HX
 have HX := n3_
 clear n3_
 have n4_ := Aside0.mk (blk_below HJ.out hb)
 clear HJ
 have HJ := n4_
 clear n4_
 clear hb
 generalize (wo.alloc (.cells #[.int .i64 a.f0, .int .i64 (-a.f1), .int .i64 a.f2, .int .i64 (-a.f3), .int .i64 (-m - 1)] 24)) = w18 at *
 generalize wo.heap.size = g19 at *
 have o0 : w18.cell? ⟨g19, 0, none⟩ = some (.int .i64 a.f0) := (cell_of hO 0).trans rfl
 have o1 : w18.cell? ⟨g19, 1, none⟩ = some (.int .i64 (-a.f1)) := (cell_of hO 1).trans rfl
 have o2 : w18.cell? ⟨g19, 2, none⟩ = some (.int .i64 a.f2) := (cell_of hO 2).trans rfl
 have o3 : w18.cell? ⟨g19, 3, none⟩ = some (.int .i64 (-a.f3)) := (cell_of hO 3).trans rfl
 have o4 : w18.cell? ⟨g19, 4, none⟩ = some (.int .i64 (-m - 1)) := (cell_of hO 4).trans rfl
 clear hO
 go_upto_region 19 with (first | (go_at_call 23; refine (cosignerlaw12_with.calls A c l a.f0 (-a.f1) a.f2 (-a.f3) (-m - 1) M1 _ HC.out hc HW1.out).mono ?_; rintro e wv ⟨vm, rfl, hR, hb⟩; obtain ⟨AM, cM, rfl, hcM, hCM⟩ := Kd.R_reads hR; have HM1 := Aside0.mk hCM; have n0_ := Aside0.mk (below_step HB.out hb); clear HB; have HB := n0_; clear n0_; have n1_ := Aside0.mk (Kd.C_below HC.out hb); clear HC; have HC := n1_; clear n1_; have n2_ := Aside0.mk (Kd.C_below HN.out hb); clear HN; have HN := n2_; clear n2_; have n3_ := Aside0.mk (blk_below HX.out hb); clear HX; have HX := n3_; clear n3_; have n4_ := Aside0.mk (blk_below HJ.out hb); clear HJ; have HJ := n4_; clear n4_; clear hb hR hCM o0 o1 o2 o3 o4) | (go_at_call 24; refine (FN1.out _ _ _ HM1.out hcM).mono ?_; rintro e wq ⟨rfl, hb⟩; have n0_ := Aside0.mk (below_step HB.out hb); clear HB; have HB := n0_; clear n0_; have n1_ := Aside0.mk (Kd.C_below HC.out hb); clear HC; have HC := n1_; clear n1_; have n2_ := Aside0.mk (Kd.C_below HN.out hb); clear HN; have HN := n2_; clear n2_; have n3_ := Aside0.mk (blk_below HX.out hb); clear HX; have HX := n3_; clear n3_; have n4_ := Aside0.mk (blk_below HJ.out hb); clear HJ; have HJ := n4_; clear n4_; clear hb HM1 hcM; (try clear x0 x1 x2 x3 x4); have hx_ := HX.out; have x0 : wq.cell? ⟨w.heap.size, 0, none⟩ = some (.int .i64 a.f0) := (cell_of hx_ 0).trans rfl; have x1 : wq.cell? ⟨w.heap.size, 1, none⟩ = some (.int .i64 a.f1) := (cell_of hx_ 1).trans rfl; have x2 : wq.cell? ⟨w.heap.size, 2, none⟩ = some (.int .i64 a.f2) := (cell_of hx_ 2).trans rfl; have x3 : wq.cell? ⟨w.heap.size, 3, none⟩ = some (.int .i64 a.f3) := (cell_of hx_ 3).trans rfl; have x4 : wq.cell? ⟨w.heap.size, 4, none⟩ = some (.int .i64 a.f4) := (cell_of hx_ 4).trans rfl; clear hx_))
 go_upto_region 20 with (fail)
 have y1 := cell_alloc1 x1
 have y3 := cell_alloc1 x3
 go_upto_region 23 with (fail)
 have hL := heap1_0 wq (.cells #[.int .i64 a.f0, .int .i64 (-a.f1), .int .i64 a.f2, .int .i64 (-a.f3), .int .i64 (-m)] 24)
 have hb := (Below.refl _ wq).alloc (Nat.le_refl _) (.cells #[.int .i64 a.f0, .int .i64 (-a.f1), .int .i64 a.f2, .int .i64 (-a.f3), .int .i64 (-m)] 24)
 have n0_ := Aside0.mk (below_step HB.out hb)
 clear HB
 have HB := n0_
 clear n0_
 have n1_ := Aside0.mk (Kd.C_below HC.out hb)
 clear HC
 have HC := n1_
 clear n1_
 have n2_ := Aside0.mk (Kd.C_below HN.out hb)
 clear HN
 have HN := n2_
 clear n2_
 have n3_ := Aside0.mk (blk_below HX.out hb)
 clear HX
 have HX := n3_
 clear n3_
 have n4_ := Aside0.mk (blk_below HJ.out hb)
 clear HJ
 have HJ := n4_
 clear n4_
 clear hb x0 x1 x2 x3 x4 y1 y3
 generalize (wq.alloc (.cells #[.int .i64 a.f0, .int .i64 (-a.f1), .int .i64 a.f2, .int .i64 (-a.f3), .int .i64 (-m)] 24)) = w23 at *
 generalize wq.heap.size = g23 at *
 have k0 : w23.cell? ⟨g23, 0, none⟩ = some (.int .i64 a.f0) := (cell_of hL 0).trans rfl
 have k1 : w23.cell? ⟨g23, 1, none⟩ = some (.int .i64 (-a.f1)) := (cell_of hL 1).trans rfl
 have k2 : w23.cell? ⟨g23, 2, none⟩ = some (.int .i64 a.f2) := (cell_of hL 2).trans rfl
 have k3 : w23.cell? ⟨g23, 3, none⟩ = some (.int .i64 (-a.f3)) := (cell_of hL 3).trans rfl
 have k4 : w23.cell? ⟨g23, 4, none⟩ = some (.int .i64 (-m)) := (cell_of hL 4).trans rfl
 have hj_ := HJ.out
 have j0 : w23.cell? ⟨g18, 0, none⟩ = some (.int .i64 a.f0) := (cell_of hj_ 0).trans rfl
 have j1 : w23.cell? ⟨g18, 1, none⟩ = some (.int .i64 a.f1) := (cell_of hj_ 1).trans rfl
 have j2 : w23.cell? ⟨g18, 2, none⟩ = some (.int .i64 a.f2) := (cell_of hj_ 2).trans rfl
 have j3 : w23.cell? ⟨g18, 3, none⟩ = some (.int .i64 a.f3) := (cell_of hj_ 3).trans rfl
 have j4 : w23.cell? ⟨g18, 4, none⟩ = some (.int .i64 m) := (cell_of hj_ 4).trans rfl
 clear hj_ hL
 refine start_ (n := 12) (S := fun w' => Aside0 (Kd.C k24 w' A l.length l) ∧ w'.cell? ⟨g18, 0, none⟩ = some (.int .i64 a.f0) ∧ w'.cell? ⟨g18, 1, none⟩ = some (.int .i64 a.f1) ∧ w'.cell? ⟨g18, 2, none⟩ = some (.int .i64 a.f2) ∧ w'.cell? ⟨g18, 3, none⟩ = some (.int .i64 a.f3) ∧ w'.cell? ⟨g18, 4, none⟩ = some (.int .i64 m) ∧ w'.cell? ⟨g23, 0, none⟩ = some (.int .i64 a.f0) ∧ w'.cell? ⟨g23, 1, none⟩ = some (.int .i64 (-a.f1)) ∧ w'.cell? ⟨g23, 2, none⟩ = some (.int .i64 a.f2) ∧ w'.cell? ⟨g23, 3, none⟩ = some (.int .i64 (-a.f3)) ∧ w'.cell? ⟨g23, 4, none⟩ = some (.int .i64 (-m))) (ds := []) #[ff,ff,ff,ff,ff,ff,ff,ff,ff,ff,ff,ff] (by kernel_rfl) rfl rfl ⟨⟨Kd.C_drew HC.out⟩, j0, j1, j2, j3, j4, k0, k1, k2, k3, k4⟩ (fun hHeld => ?_)
 refine pure_ (i := 0) (N := some 187) (v := ?_) (a' := ?_) #[tt,ff,ff,ff,ff,ff,ff,ff,ff,ff,ff,ff] rfl rfl (by kernel_rfl) (fun _ _ _ h => h) (Or.inl ⟨by rfl, ?_⟩) ?_ ?_
 rotate_left
 · intro w'
   go_simp
   with_reducible rfl
 rotate_left
 · simp only [Act.put, List.setIfInBounds_toArray, List.set_cons_zero, List.set_cons_succ, i64_w, i32_w]
   rfl
 refine pure_ (i := 1) (N := some 188) (v := ?_) (a' := ?_) #[tt,tt,ff,ff,ff,ff,ff,ff,ff,ff,ff,ff] rfl rfl (by kernel_rfl) (fun _ _ _ h => h) (Or.inl ⟨by rfl, ?_⟩) ?_ ?_
 rotate_left
 · intro w'
   go_simp
   with_reducible rfl
 rotate_left
 · simp only [Act.put, List.setIfInBounds_toArray, List.set_cons_zero, List.set_cons_succ, i64_w, i32_w]
   rfl
 refine take_ (i := 2) (N := some 189) (v := ?_) (a' := ?_) #[tt,tt,tt,ff,ff,ff,ff,ff,ff,ff,ff,ff] rfl rfl (by kernel_rfl) (fun _ _ _ h => h) (Or.inl ⟨by rfl, ?_⟩) hHeld ?_ ?_
 rotate_left
 · rintro w' ⟨s0, s1, s2, s3, s4, s5, s6, s7, s8, s9, s10⟩
   go_simp
   with_reducible rfl
 rotate_left
 · simp only [Act.put, List.setIfInBounds_toArray, List.set_cons_zero, List.set_cons_succ, i64_w, i32_w]
   rfl
 refine take_ (i := 4) (N := some 191) (v := ?_) (a' := ?_) #[tt,tt,tt,ff,tt,ff,ff,ff,ff,ff,ff,ff] rfl rfl (by kernel_rfl) (fun _ _ _ h => h) (Or.inl ⟨by rfl, ?_⟩) hHeld ?_ ?_
 rotate_left
 · rintro w' ⟨s0, s1, s2, s3, s4, s5, s6, s7, s8, s9, s10⟩
   go_simp
   with_reducible rfl
 rotate_left
 · simp only [Act.put, List.setIfInBounds_toArray, List.set_cons_zero, List.set_cons_succ, i64_w, i32_w]
   rfl
 refine one_ (i := 3) (N := some 190) #[tt,tt,tt,tt,tt,ff,ff,ff,ff,ff,ff,ff] rfl rfl (by kernel_rfl) (by decide) (fun K hK => ?_)
 refine goes_ Try.func23 (by kernel_rfl) rfl #[.slice A l.length c, .agg #[.int .i64 a.f0, .int .i64 a.f1, .int .i64 a.f2, .int .i64 a.f3, .int .i64 m]] (by rfl) rfl rfl (by simp only [List.map_toArray, List.map_cons, List.map_nil]; rfl) ?_
 with_reducible refine (cosignerlaw12_with.calls A c l a.f0 a.f1 a.f2 a.f3 m M2 _ hHeld.1.out hc HW2.out).mono ?_
 rintro e w6 ⟨vm, rfl, hR, hb⟩
 obtain ⟨AM, cM, rfl, hcM, hCM⟩ := Kd.R_reads hR
 have HM2 := Aside0.mk hCM; have hb0_ := below_step ((Below.refl w23.heap.size w23).drew) hb
 have n0_ := Aside0.mk (below_step HB.out hb0_)
 clear HB
 have HB := n0_
 clear n0_
 have n1_ := Aside0.mk (Kd.C_below HC.out hb0_)
 clear HC
 have HC := n1_
 clear n1_
 have n2_ := Aside0.mk (Kd.C_below HN.out hb0_)
 clear HN
 have HN := n2_
 clear n2_
 have n3_ := Aside0.mk (blk_below HX.out hb0_)
 clear HX
 have HX := n3_
 clear n3_
 have n4_ := Aside0.mk (blk_below HJ.out hb0_)
 clear HJ
 have HJ := n4_
 clear n4_
 clear hb0_ hCM hR
 refine ⟨_, rfl, ?_⟩
 refine hK.out _ _ ⟨⟨Kd.C_below hHeld.1.out hb⟩, (pw_cell_below hb hHeld.2.1), (pw_cell_below hb hHeld.2.2.1), (pw_cell_below hb hHeld.2.2.2.1), (pw_cell_below hb hHeld.2.2.2.2.1), (pw_cell_below hb hHeld.2.2.2.2.2.1), (pw_cell_below hb hHeld.2.2.2.2.2.2.1), (pw_cell_below hb hHeld.2.2.2.2.2.2.2.1), (pw_cell_below hb hHeld.2.2.2.2.2.2.2.2.1), (pw_cell_below hb hHeld.2.2.2.2.2.2.2.2.2.1), (pw_cell_below hb hHeld.2.2.2.2.2.2.2.2.2.2)⟩ (fun hHeld => ?_)
 clear hK K
 refine norm_ (a' := ?_) ?_ ?_
 rotate_left
 · show Act.put _ (some 190) _ = _
   simp only [Act.put, List.setIfInBounds_toArray, List.set_cons_zero, List.set_cons_succ, i64_w, i32_w]
   rfl
 refine one_ (i := 5) (N := some 192) #[tt,tt,tt,tt,tt,tt,ff,ff,ff,ff,ff,ff] rfl rfl (by kernel_rfl) (by decide) (fun K hK => ?_)
 refine goes_ Try.func23 (by kernel_rfl) rfl #[.slice AM M2.length cM, .agg #[.int .i64 a.f0, .int .i64 (-a.f1), .int .i64 a.f2, .int .i64 (-a.f3), .int .i64 (-m)]] (by rfl) rfl rfl (by simp only [List.map_toArray, List.map_cons, List.map_nil]; rfl) ?_
 with_reducible refine (cosignerlaw12_with.calls AM cM M2 a.f0 (-a.f1) a.f2 (-a.f3) (-m) M3 _ HM2.out hcM HW3.out).mono ?_
 rintro e w7 ⟨vm2, rfl, hR, hb⟩
 obtain ⟨AN, cN, rfl, hcN, hCN⟩ := Kd.R_reads hR
 have HM3 := Aside0.mk hCN
 have n0_ := Aside0.mk (below_step HB.out hb)
 clear HB
 have HB := n0_
 clear n0_
 have n1_ := Aside0.mk (Kd.C_below HC.out hb)
 clear HC
 have HC := n1_
 clear n1_
 have n2_ := Aside0.mk (Kd.C_below HN.out hb)
 clear HN
 have HN := n2_
 clear n2_
 have n3_ := Aside0.mk (blk_below HX.out hb)
 clear HX
 have HX := n3_
 clear n3_
 have n4_ := Aside0.mk (blk_below HJ.out hb)
 clear HJ
 have HJ := n4_
 clear n4_
 clear hCN hR HM2 hcM
 refine ⟨_, rfl, ?_⟩
 refine hK.out _ _ ⟨⟨Kd.C_below hHeld.1.out hb⟩, (pw_cell_below hb hHeld.2.1), (pw_cell_below hb hHeld.2.2.1), (pw_cell_below hb hHeld.2.2.2.1), (pw_cell_below hb hHeld.2.2.2.2.1), (pw_cell_below hb hHeld.2.2.2.2.2.1), (pw_cell_below hb hHeld.2.2.2.2.2.2.1), (pw_cell_below hb hHeld.2.2.2.2.2.2.2.1), (pw_cell_below hb hHeld.2.2.2.2.2.2.2.2.1), (pw_cell_below hb hHeld.2.2.2.2.2.2.2.2.2.1), (pw_cell_below hb hHeld.2.2.2.2.2.2.2.2.2.2)⟩ (fun hHeld => ?_)
 clear hK K
 refine norm_ (a' := ?_) ?_ ?_
 rotate_left
 · show Act.put _ (some 192) _ = _
   simp only [Act.put, List.setIfInBounds_toArray, List.set_cons_zero, List.set_cons_succ, i64_w, i32_w]
   rfl
 refine one_ (i := 6) (N := some 193) #[tt,tt,tt,tt,tt,tt,tt,ff,ff,ff,ff,ff] rfl rfl (by kernel_rfl) (by decide) (fun K hK => ?_)
 refine goes_ Try.func24 (by kernel_rfl) rfl #[.int .i64 n, .slice AN M3.length cN] (by rfl) rfl rfl (by simp only [List.map_toArray, List.map_cons, List.map_nil]; rfl) ?_
 with_reducible refine (FN3.out _ _ _ HM3.out hcN).mono ?_
 rintro e w8 ⟨rfl, hb⟩
 have n0_ := Aside0.mk (below_step HB.out hb)
 clear HB
 have HB := n0_
 clear n0_
 have n1_ := Aside0.mk (Kd.C_below HC.out hb)
 clear HC
 have HC := n1_
 clear n1_
 have n2_ := Aside0.mk (Kd.C_below HN.out hb)
 clear HN
 have HN := n2_
 clear n2_
 have n3_ := Aside0.mk (blk_below HX.out hb)
 clear HX
 have HX := n3_
 clear n3_
 have n4_ := Aside0.mk (blk_below HJ.out hb)
 clear HJ
 have HJ := n4_
 clear n4_
 clear HM3 hcN
 refine ⟨_, rfl, ?_⟩
 refine hK.out _ _ ⟨⟨Kd.C_below hHeld.1.out hb⟩, (pw_cell_below hb hHeld.2.1), (pw_cell_below hb hHeld.2.2.1), (pw_cell_below hb hHeld.2.2.2.1), (pw_cell_below hb hHeld.2.2.2.2.1), (pw_cell_below hb hHeld.2.2.2.2.2.1), (pw_cell_below hb hHeld.2.2.2.2.2.2.1), (pw_cell_below hb hHeld.2.2.2.2.2.2.2.1), (pw_cell_below hb hHeld.2.2.2.2.2.2.2.2.1), (pw_cell_below hb hHeld.2.2.2.2.2.2.2.2.2.1), (pw_cell_below hb hHeld.2.2.2.2.2.2.2.2.2.2)⟩ (fun hHeld => ?_)
 clear hK K
 refine norm_ (a' := ?_) ?_ ?_
 rotate_left
 · show Act.put _ (some 193) _ = _
   simp only [Act.put, List.setIfInBounds_toArray, List.set_cons_zero, List.set_cons_succ, i64_w, i32_w]
   rfl
 refine pure_ (i := 7) (N := some 186) (v := ?_) (a' := ?_) #[tt,tt,tt,tt,tt,tt,tt,tt,ff,ff,ff,ff] rfl rfl (by kernel_rfl) (fun _ _ _ h => h) (Or.inl ⟨by rfl, ?_⟩) ?_ ?_
 rotate_left
 · intro w'
   go_simp
   with_reducible rfl
 rotate_left
 · simp only [Act.put, List.setIfInBounds_toArray, List.set_cons_zero, List.set_cons_succ, i64_w, i32_w]
   rfl
 refine pure_ (i := 8) (N := some 194) (v := ?_) (a' := ?_) #[tt,tt,tt,tt,tt,tt,tt,tt,tt,ff,ff,ff] rfl rfl (by kernel_rfl) (fun _ _ _ h => h) (Or.inl ⟨by rfl, ?_⟩) ?_ ?_
 rotate_left
 · intro w'
   go_simp
   with_reducible rfl
 rotate_left
 · simp only [Act.put, List.setIfInBounds_toArray, List.set_cons_zero, List.set_cons_succ, i64_w, i32_w]
   rfl
 refine pure_ (i := 9) (N := some 195) (v := ?_) (a' := ?_) #[tt,tt,tt,tt,tt,tt,tt,tt,tt,tt,ff,ff] rfl rfl (by kernel_rfl) (fun _ _ _ h => h) (Or.inl ⟨by rfl, ?_⟩) ?_ ?_
 rotate_left
 · intro w'
   go_simp
   with_reducible rfl
 rotate_left
 · simp only [Act.put, List.setIfInBounds_toArray, List.set_cons_zero, List.set_cons_succ, i64_w, i32_w]
   rfl
 refine pure_ (i := 10) (N := some 24) (v := ?_) (a' := ?_) #[tt,tt,tt,tt,tt,tt,tt,tt,tt,tt,tt,ff] rfl rfl (by kernel_rfl) (fun _ _ _ h => h) (Or.inl ⟨by rfl, ?_⟩) ?_ ?_
 rotate_left
 · intro w'
   go_simp
   with_reducible rfl
 rotate_left
 · simp only [Act.put, List.setIfInBounds_toArray, List.set_cons_zero, List.set_cons_succ, i64_w, i32_w]
   rfl
 refine pure_ (i := 11) (N := some 25) (v := ?_) (a' := ?_) #[tt,tt,tt,tt,tt,tt,tt,tt,tt,tt,tt,tt] rfl rfl (by kernel_rfl) (fun _ _ _ h => h) (Or.inl ⟨by rfl, ?_⟩) ?_ ?_
 rotate_left
 · intro w'
   go_simp
   with_reducible rfl
 rotate_left
 · simp only [Act.put, List.setIfInBounds_toArray, List.set_cons_zero, List.set_cons_succ, i64_w, i32_w]
   rfl
 refine done_ (by kernel_rfl) ?_
 try clear hHeld
 clear j0 j1 j2 j3 j4 k0 k1 k2 k3 k4
 cases ft
 · go_wp2_with (first | (go_at_call 17; refine (sanity_calls _).mono ?_; rintro e wz ⟨rfl, hb⟩; have n0_ := Aside0.mk (below_step HB.out hb); clear HB; have HB := n0_; clear n0_; have n1_ := Aside0.mk (Kd.C_below HC.out hb); clear HC; have HC := n1_; clear n1_; have n2_ := Aside0.mk (Kd.C_below HN.out hb); clear HN; have HN := n2_; clear n2_; have n3_ := Aside0.mk (blk_below HX.out hb); clear HX; have HX := n3_; clear n3_; have n4_ := Aside0.mk (blk_below HJ.out hb); clear HJ; have HJ := n4_; clear n4_; clear hb; (try clear j0 j1 j2 j3 j4 k0 k1 k2 k3 k4); have hj_ := HJ.out; have j0 : wz.cell? ⟨g18, 0, none⟩ = some (.int .i64 a.f0) := (cell_of hj_ 0).trans rfl; have j1 : wz.cell? ⟨g18, 1, none⟩ = some (.int .i64 a.f1) := (cell_of hj_ 1).trans rfl; have j2 : wz.cell? ⟨g18, 2, none⟩ = some (.int .i64 a.f2) := (cell_of hj_ 2).trans rfl; have j3 : wz.cell? ⟨g18, 3, none⟩ = some (.int .i64 a.f3) := (cell_of hj_ 3).trans rfl; have j4 : wz.cell? ⟨g18, 4, none⟩ = some (.int .i64 m) := (cell_of hj_ 4).trans rfl; clear hj_) | (go_at_call 40; (with_reducible refine (FF.out _ HC.out HN.out).mono ?_); rintro e wy ⟨rfl, hb⟩; have n0_ := Aside0.mk (below_step HB.out hb); clear HB; have HB := n0_; clear n0_; have n1_ := Aside0.mk (Kd.C_below HC.out hb); clear HC; have HC := n1_; clear n1_; have n2_ := Aside0.mk (Kd.C_below HN.out hb); clear HN; have HN := n2_; clear n2_; have n3_ := Aside0.mk (blk_below HX.out hb); clear HX; have HX := n3_; clear n3_; have n4_ := Aside0.mk (blk_below HJ.out hb); clear HJ; have HJ := n4_; clear n4_; clear hb; (try clear j0 j1 j2 j3 j4 k0 k1 k2 k3 k4); have hj_ := HJ.out; have j0 : wy.cell? ⟨g18, 0, none⟩ = some (.int .i64 a.f0) := (cell_of hj_ 0).trans rfl; have j1 : wy.cell? ⟨g18, 1, none⟩ = some (.int .i64 a.f1) := (cell_of hj_ 1).trans rfl; have j2 : wy.cell? ⟨g18, 2, none⟩ = some (.int .i64 a.f2) := (cell_of hj_ 2).trans rfl; have j3 : wy.cell? ⟨g18, 3, none⟩ = some (.int .i64 a.f3) := (cell_of hj_ 3).trans rfl; have j4 : wy.cell? ⟨g18, 4, none⟩ = some (.int .i64 m) := (cell_of hj_ 4).trans rfl; clear hj_))
   go_ret
   exact ⟨rfl, HB.out⟩
 · go_wp2_with (first | (go_at_call 17; refine (sanity_calls _).mono ?_; rintro e wz ⟨rfl, hb⟩; have n0_ := Aside0.mk (below_step HB.out hb); clear HB; have HB := n0_; clear n0_; have n1_ := Aside0.mk (Kd.C_below HC.out hb); clear HC; have HC := n1_; clear n1_; have n2_ := Aside0.mk (Kd.C_below HN.out hb); clear HN; have HN := n2_; clear n2_; have n3_ := Aside0.mk (blk_below HX.out hb); clear HX; have HX := n3_; clear n3_; have n4_ := Aside0.mk (blk_below HJ.out hb); clear HJ; have HJ := n4_; clear n4_; clear hb; (try clear j0 j1 j2 j3 j4 k0 k1 k2 k3 k4); have hj_ := HJ.out; have j0 : wz.cell? ⟨g18, 0, none⟩ = some (.int .i64 a.f0) := (cell_of hj_ 0).trans rfl; have j1 : wz.cell? ⟨g18, 1, none⟩ = some (.int .i64 a.f1) := (cell_of hj_ 1).trans rfl; have j2 : wz.cell? ⟨g18, 2, none⟩ = some (.int .i64 a.f2) := (cell_of hj_ 2).trans rfl; have j3 : wz.cell? ⟨g18, 3, none⟩ = some (.int .i64 a.f3) := (cell_of hj_ 3).trans rfl; have j4 : wz.cell? ⟨g18, 4, none⟩ = some (.int .i64 m) := (cell_of hj_ 4).trans rfl; clear hj_) | (go_at_call 40; (with_reducible refine (FF.out _ HC.out HN.out).mono ?_); rintro e wy ⟨rfl, hb⟩; have n0_ := Aside0.mk (below_step HB.out hb); clear HB; have HB := n0_; clear n0_; have n1_ := Aside0.mk (Kd.C_below HC.out hb); clear HC; have HC := n1_; clear n1_; have n2_ := Aside0.mk (Kd.C_below HN.out hb); clear HN; have HN := n2_; clear n2_; have n3_ := Aside0.mk (blk_below HX.out hb); clear HX; have HX := n3_; clear n3_; have n4_ := Aside0.mk (blk_below HJ.out hb); clear HJ; have HJ := n4_; clear n4_; clear hb; (try clear j0 j1 j2 j3 j4 k0 k1 k2 k3 k4); have hj_ := HJ.out; have j0 : wy.cell? ⟨g18, 0, none⟩ = some (.int .i64 a.f0) := (cell_of hj_ 0).trans rfl; have j1 : wy.cell? ⟨g18, 1, none⟩ = some (.int .i64 a.f1) := (cell_of hj_ 1).trans rfl; have j2 : wy.cell? ⟨g18, 2, none⟩ = some (.int .i64 a.f2) := (cell_of hj_ 2).trans rfl; have j3 : wy.cell? ⟨g18, 3, none⟩ = some (.int .i64 a.f3) := (cell_of hj_ 3).trans rfl; have j4 : wy.cell? ⟨g18, 4, none⟩ = some (.int .i64 m) := (cell_of hj_ 4).trans rfl; clear hj_) | (go_at_call 40; refine (FJ.out (by trivial) _ _ 1 (single24 _ (jst a m)) (by simp) (Kd.C_alloc HN.out _)).mono ?_; rintro e wu ⟨rfl, hb2⟩; have hb := below_step ((Below.refl _ _).alloc (Nat.le_refl _) (.cells #[.int .i64 a.f0, .int .i64 a.f1, .int .i64 a.f2, .int .i64 a.f3, .int .i64 m] 24)) hb2; have n0_ := Aside0.mk (below_step HB.out hb); clear HB; have HB := n0_; clear n0_; clear hb hb2))
   go_ret
   exact ⟨rfl, HB.out⟩
end Go.Proofs.Ytmoiickbgokloaa.PA
