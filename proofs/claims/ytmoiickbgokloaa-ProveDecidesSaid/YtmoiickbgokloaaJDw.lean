/- The law ProveDecides: its walk. -/
import Derived.Test.YtmoiickbgokloaaJMo
import Derived.Test.YtmoiickbgokloaaJDCx0
import Derived.Test.YtmoiickbgokloaaJFg
import Derived.Test.YtmoiickbgokloaaJHr
import Derived.Test.YtmoiickbgokloaaJMr
import Derived.Test.YtmoiickbgokloaaJPh
import Derived.Test.YtmoiickbgokloaaJSb
namespace Go.Proofs.Ytmoiickbgokloaa.PA
open Go.RowKit Go.Proofs.YtmoiickbgokloaaW.PrintWords Go.Proofs.YtmoiickbgokloaaW.PrintLast Go.Proofs.YtmoiickbgokloaaW.PrintMore Go.Proofs.Ytmoiickbgokloaa.Utv
set_option linter.unusedVariables false
set_option linter.unusedSimpArgs false
theorem field56 (x : Int) (b : Bool) (y : Int) (W : World) : (Instr.field 56 (.agg #[.int .i64 x, .bool b, .int .i64 y]) 1).run Try.prog W = .ok (.bool b) W := by
 have hu := Try.underlying56
 have hu2 := Try.underlying4
 unfold Instr.field
 simp only [Sem.run_bind, run_underlying hu, Result.andThen_ok]
 simp [part, isAgg, Sem.run_bind, run_underlying hu2, asAgg]
theorem possible_f {n : Nat} {l : List S24} (hc : checkE n l = 0) : cosignerref12_possible.f n l = some (satB l) := by
 unfold cosignerref12_possible.f cosignerref12_tight.f
 rw [if_pos hc]; rfl
theorem Possible_f (n : Int) (l : List S24) : cosignerref12_Possible.f 80 n l = some (if checkE n l = 0 then (satB l, 0) else (false, checkE n l)) := by
 unfold cosignerref12_Possible.f
 rw [ref_check n l 80 (by omega), Option.bind_some]
 by_cases hc : checkE n l = 0
 · obtain ⟨h1, _, _, _⟩ := check_ok hc
   obtain ⟨n, rfl⟩ : ∃ m : Nat, n = m := ⟨n.toNat, by omega⟩
   rw [if_pos hc, if_pos hc, possible_f hc]; rfl
 · rw [if_neg hc, if_neg hc]
theorem mdl_fits {n : Nat} {l : List S24} {xs : List Int} (hc : checkE n l = 0) (hx : xs.length = n) (h : Mdl n l xs) : anyOut xs = false ∧ Sat l (xf xs) ∧ fitsG n l xs = (0, true, 0) := by
 obtain ⟨h1, h2, _, _⟩ := check_ok hc
 have ho : anyOut xs = false := by
  unfold anyOut
  rw [List.any_eq_false]
  intro x hm
  have := h.bnd x hm
  unfold smallB
  rw [decide_eq_true (by omega), decide_eq_true (by omega)]
  decide
 have hs : Sat l (xf xs) := by
  obtain ⟨y, hy⟩ := satB_iff.1 h.sat
  obtain ⟨y1, y2⟩ := fixL_sat.1 hy
  intro a ha
  obtain ⟨_, _, _, h4⟩ := check_ok hc
  have r := h4 a ha
  have e : lhs a (xf xs) = lhs a y := by
   have e1 : ∀ k : Int, 0 ≤ k → k < n → xf xs k.toNat = y k.toNat := fun k k0 k1 => by
    unfold xf rd
    rw [Int.toNat_natCast, List.getD_eq_getElem?_getD, List.getElem?_eq_getElem (by omega), y2 _ (by omega)]; rfl
   unfold lhs
   rw [e1 _ r.a0 r.a1]
   rcases r.q with ⟨q1, q2⟩ | ⟨_, b0, b1, _⟩
   · rw [q1, Int.zero_mul, Int.zero_mul]
   · rw [e1 _ b0 b1]
  have := y1 a ha
  unfold fits at this ⊢
  rw [e]; exact this
 refine ⟨ho, hs, ?_⟩
 unfold fitsG
 rw [if_pos hc, if_pos (by omega), ho, if_neg (by simp), fitG_all l.length 0 fun j _ hj => ?_]
 rw [rdT_get (by omega)]
 exact fitB_iff.2 (hs _ (List.getElem_mem _))
set_option maxRecDepth 100000 in
set_option maxHeartbeats 4000000 in
theorem decides_short (n : Int) (A : Option Addr) (c : Nat) (l : List S24) (w : World) (hr : Kd.C k24 w A l.length l) (hc : l.length ≤ c) (h60 : ¬(l.length : Int) ≤ 60) :
 Calls Try.prog 9 #[.int .i64 n, .slice A l.length c] w fun e w' => e = .returned (.bool true) ∧ Below w.heap.size w w' := by
 have HC := Aside0.mk hr
 clear hr
 have H16 : Aside0 (∀ (W : World), Kd.C k24 W A l.length l → Calls Try.prog 16 #[.slice A l.length c] W fun e w' => e = .returned (.bool false) ∧ Below W.heap.size W w') := ⟨fun W h => (cosignerlaw12_short.calls A c l false W h hc (by unfold cosignerlaw12_short.f; rw [decide_eq_false h60])).mono fun e w' h => ⟨h.1, h.2.below⟩⟩
 go_enter Try.func9, Try.ntmps9
 go_wp2_with (first | (go_at_call 16; refine (H16.out _ HC.out).mono ?_; rintro e wa ⟨rfl, hb⟩; have HB1 := Aside0.mk hb; clear hb) | (go_at_call 17; refine (sanity_calls _).mono ?_; rintro e wf ⟨rfl, hb⟩; have HB5 := Aside0.mk (below_step HB1.out hb); clear hb))
 go_ret
 exact ⟨rfl, HB5.out⟩
set_option maxRecDepth 100000 in
set_option maxHeartbeats 4000000 in
theorem decides_err (n : Int) (A : Option Addr) (c : Nat) (l : List S24) (w : World) (hr : Kd.C k24 w A l.length l) (hc : l.length ≤ c) (h60 : (l.length : Int) ≤ 60) (hk : checkE n l ≠ 0) :
 Calls Try.prog 9 #[.int .i64 n, .slice A l.length c] w fun e w' => e = .returned (.bool true) ∧ Below w.heap.size w w' := by
 have hu61 := Try.underlying61
 have hu56 := Try.underlying56
 have HC := Aside0.mk hr
 have HB := Aside0.mk (Below.refl w.heap.size w)
 clear hr
 have H16 : Aside0 (∀ (W : World), Kd.C k24 W A l.length l → Calls Try.prog 16 #[.slice A l.length c] W fun e w' => e = .returned (.bool true) ∧ Below W.heap.size W w') := ⟨fun W h => (cosignerlaw12_short.calls A c l true W h hc (by unfold cosignerlaw12_short.f; rw [decide_eq_true h60])).mono fun e w' h => ⟨h.1, h.2.below⟩⟩
 have F24 : Aside0 (∀ (W : World), Kd.C k24 W A l.length l → Calls Try.prog 24 #[.int .i64 n, .slice A l.length c] W fun e w' => e = .returned (.tuple #[.bool false, .int .i64 (checkE n l)]) ∧ Below W.heap.size W w') := ⟨fun W h => prove_Possible.calls n A c l _ _ W h hc (by unfold prove_Possible.f; rw [if_neg hk])⟩
 have F36 : Aside0 (∀ (W : World), Kd.C k24 W A l.length l → Calls Try.prog 36 #[.int .i64 n, .slice A l.length c] W fun e w' => e = .returned (.agg #[.bool false, .int .i64 (checkE n l)]) ∧ Below W.heap.size W w') := ⟨fun W h => cosignerref12_Possible.calls 80 n A c l _ _ W h hc (by rw [Possible_f, if_neg hk])⟩
 have F37 : Aside0 (∀ (W : World), Kd.C k24 W A l.length l → Calls Try.prog 37 #[.int .i64 n, .slice A l.length c] W fun e w' => e = .returned (.tuple #[.slice none 0 0, .int .i64 (checkE n l)]) ∧ Below W.heap.size W w') := ⟨fun W h => (model_err n A c l W h hc hk)⟩
 have F38 : Aside0 (∀ (W : World), Kd.C k24 W A l.length l → Calls Try.prog 38 #[.int .i64 n, .slice A l.length c] W fun e w' => e = .returned (.tuple #[.slice none 0 0, .bool false, .int .i64 (checkE n l)]) ∧ Below W.heap.size W w') := ⟨fun W h => (refute_err n A c l W h hc hk)⟩
 have e1 : (checkE n l != 0) = true := by rw [bne_iff_ne]; exact hk
 have e2 : (checkE n l != checkE n l) = false := by simp
 have e3 : (checkE n l == checkE n l) = true := by simp
 generalize checkE n l = er at *
 go_enter Try.func9, Try.ntmps9
 go_upto_region 5 with (first | (go_at_call 16; refine (H16.out _ HC.out).mono ?_; rintro e wa ⟨rfl, hb⟩; have n0_ := Aside0.mk (below_step HB.out hb); clear HB; have HB := n0_; clear n0_; have n1_ := Aside0.mk (Kd.C_below HC.out hb); clear HC; have HC := n1_; clear n1_; clear hb) | (go_at_call 24; refine (F24.out _ HC.out).mono ?_; rintro e wb ⟨rfl, hb⟩; have n0_ := Aside0.mk (below_step HB.out hb); clear HB; have HB := n0_; clear n0_; have n1_ := Aside0.mk (Kd.C_below HC.out hb); clear HC; have HC := n1_; clear n1_; clear hb) | (go_at_call 36; refine (F36.out _ HC.out).mono ?_; rintro e wc ⟨rfl, hb⟩; have n0_ := Aside0.mk (below_step HB.out hb); clear HB; have HB := n0_; clear n0_; have n1_ := Aside0.mk (Kd.C_below HC.out hb); clear HC; have HC := n1_; clear n1_; clear hb))
 have hR1 := heap1_0 wc (.cells #[.bool false, .int .i64 er] 61)
 have hb1 := (Below.refl _ wc).alloc (Nat.le_refl _) (.cells #[.bool false, .int .i64 er] 61)
 have HC1 := Aside0.mk (Kd.C_below HC.out hb1)
 have HB1 := Aside0.mk (below_step HB.out hb1)
 have HR1 := Aside0.mk hR1
 clear HC HB hR1 hb1
 generalize (wc.alloc (.cells #[.bool false, .int .i64 er] 61)) = w1 at *
 generalize wc.heap.size = g1 at *
 go_upto_region 7 with (first | (go_at_call 37; refine (F37.out _ HC1.out).mono ?_; rintro e wp ⟨rfl, hb⟩; have n0_ := Aside0.mk (below_step HB1.out hb); clear HB1; have HB1 := n0_; clear n0_; have n1_ := Aside0.mk (Kd.C_below HC1.out hb); clear HC1; have HC1 := n1_; clear n1_; have n2_ := Aside0.mk (blk_below HR1.out hb); clear HR1; have HR1 := n2_; clear n2_; clear hb) | (go_at_call 38; refine (F38.out _ HC1.out).mono ?_; rintro e wq ⟨rfl, hb⟩; have n0_ := Aside0.mk (below_step HB1.out hb); clear HB1; have HB1 := n0_; clear n0_; have n1_ := Aside0.mk (Kd.C_below HC1.out hb); clear HC1; have HC1 := n1_; clear n1_; have n2_ := Aside0.mk (blk_below HR1.out hb); clear HR1; have HR1 := n2_; clear n2_; clear hb; have hx4 := HR1.out; have q0 : wq.cell? ⟨g1, 0, none⟩ = some (.bool false) := (cell_of hx4 0).trans rfl; have q1 : wq.cell? ⟨g1, 1, none⟩ = some (.int .i64 er) := (cell_of hx4 1).trans rfl; clear hx4))
 go_wp2_with (go_at_call 17; refine (sanity_calls _).mono ?_; rintro e wf ⟨rfl, hb⟩; have HB5 := Aside0.mk (below_step HB1.out hb); clear hb)
 go_ret
 exact ⟨rfl, HB5.out⟩
set_option maxRecDepth 100000 in
set_option maxHeartbeats 4000000 in
theorem decides_sat (n : Nat) (A : Option Addr) (c : Nat) (l : List S24) (w : World) (hr : Kd.C k24 w A l.length l) (hc : l.length ≤ c) (h60 : (l.length : Int) ≤ 60) (hk : checkE n l = 0) (hs : satB l = true) :
 Calls Try.prog 9 #[.int .i64 n, .slice A l.length c] w fun e w' => e = .returned (.bool true) ∧ Below w.heap.size w w' := by
 have hu61 := Try.underlying61
 have hu56 := Try.underlying56
 have HC := Aside0.mk hr
 have HB := Aside0.mk (Below.refl w.heap.size w)
 clear hr
 have H16 : Aside0 (∀ (W : World), Kd.C k24 W A l.length l → Calls Try.prog 16 #[.slice A l.length c] W fun e w' => e = .returned (.bool true) ∧ Below W.heap.size W w') := ⟨fun W h => (cosignerlaw12_short.calls A c l true W h hc (by unfold cosignerlaw12_short.f; rw [decide_eq_true h60])).mono fun e w' h => ⟨h.1, h.2.below⟩⟩
 obtain ⟨k1, k2, k3, k4⟩ := check_ok hk
 have F24 : Aside0 (∀ (W : World), Kd.C k24 W A l.length l → Calls Try.prog 24 #[.int .i64 n, .slice A l.length c] W fun e w' => e = .returned (.tuple #[.bool true, .int .i64 0]) ∧ Below W.heap.size W w') := ⟨fun W h => prove_Possible.calls n A c l _ _ W h hc (by unfold prove_Possible.f; rw [if_pos hk, hs])⟩
 have F36 : Aside0 (∀ (W : World), Kd.C k24 W A l.length l → Calls Try.prog 36 #[.int .i64 n, .slice A l.length c] W fun e w' => e = .returned (.agg #[.bool true, .int .i64 0]) ∧ Below W.heap.size W w') := ⟨fun W h => cosignerref12_Possible.calls 80 n A c l _ _ W h hc (by rw [Possible_f, if_pos hk, hs])⟩
 have F37 : Aside0 (∀ (W : World), Kd.C k24 W A l.length l → Calls Try.prog 37 #[.int .i64 n, .slice A l.length c] W fun e w' => ∃ (B : Option Addr) (d : Nat) (xs : List Int), e = .returned (.tuple #[.slice B xs.length d, .int .i64 0]) ∧ xs.length ≤ d ∧ Aside0 (Kd.C (Kd.int .i64) w' B xs.length xs) ∧ Below W.heap.size W w' ∧ Aside0 (∀ V, Kd.C k24 V A l.length l → Kd.C (Kd.int .i64) V B xs.length xs → Calls Try.prog 30 #[.int .i64 n, .slice A l.length c, .slice B xs.length d] V fun e w' => e = .returned (.agg #[.int .i64 0, .bool true, .int .i64 0]) ∧ Below V.heap.size V w')) := ⟨fun W h => (model_sat n A c l W h hc hk hs).mono fun e w' ⟨v, xs, h1, h2, h3, h4, h5⟩ => by
  obtain ⟨B, d, rfl, hd, hC⟩ := Kd.R_reads h2
  exact ⟨B, d, xs, h1, hd, ⟨hC⟩, h5, ⟨fun V hv hO => cosignerref12_Fits.calls 200 n A c l B d xs 0 true 0 V hv hc hO hd (by rw [ref_fits n l xs 200 (by omega), (mdl_fits hk h3 h4).2.2])⟩⟩⟩
 have F38 : Aside0 (∀ (W : World), Kd.C k24 W A l.length l → Calls Try.prog 38 #[.int .i64 n, .slice A l.length c] W fun e w' => e = .returned (.tuple #[.slice none 0 0, .bool false, .int .i64 0]) ∧ Below W.heap.size W w') := ⟨fun W h => (refute_yes n A c l W h hc hk hs)⟩
 have hf56 := field56 0 true 0
 go_enter Try.func9, Try.ntmps9
 go_upto_region 5 with (first | (go_at_call 16; refine (H16.out _ HC.out).mono ?_; rintro e wa ⟨rfl, hb⟩; have n0_ := Aside0.mk (below_step HB.out hb); clear HB; have HB := n0_; clear n0_; have n1_ := Aside0.mk (Kd.C_below HC.out hb); clear HC; have HC := n1_; clear n1_; clear hb) | (go_at_call 24; refine (F24.out _ HC.out).mono ?_; rintro e wb ⟨rfl, hb⟩; have n0_ := Aside0.mk (below_step HB.out hb); clear HB; have HB := n0_; clear n0_; have n1_ := Aside0.mk (Kd.C_below HC.out hb); clear HC; have HC := n1_; clear n1_; clear hb) | (go_at_call 36; refine (F36.out _ HC.out).mono ?_; rintro e wc ⟨rfl, hb⟩; have n0_ := Aside0.mk (below_step HB.out hb); clear HB; have HB := n0_; clear n0_; have n1_ := Aside0.mk (Kd.C_below HC.out hb); clear HC; have HC := n1_; clear n1_; clear hb))
 have hR1 := heap1_0 wc (.cells #[.bool true, .int .i64 0] 61)
 have hb1 := (Below.refl _ wc).alloc (Nat.le_refl _) (.cells #[.bool true, .int .i64 0] 61)
 have HC1 := Aside0.mk (Kd.C_below HC.out hb1)
 have HB1 := Aside0.mk (below_step HB.out hb1)
 have HR1 := Aside0.mk hR1
 clear HC HB hR1 hb1
 generalize (wc.alloc (.cells #[.bool true, .int .i64 0] 61)) = w1 at *
 generalize wc.heap.size = g1 at *
 go_upto_region 7 with (first | (go_at_call 37; refine (F37.out _ HC1.out).mono ?_; rintro e wp ⟨B, d, xs, rfl, hd, HO, hb, HF⟩; have n0_ := Aside0.mk (below_step HB1.out hb); clear HB1; have HB1 := n0_; clear n0_; have n1_ := Aside0.mk (Kd.C_below HC1.out hb); clear HC1; have HC1 := n1_; clear n1_; have n2_ := Aside0.mk (blk_below HR1.out hb); clear HR1; have HR1 := n2_; clear n2_; clear hb) | (go_at_call 38; refine (F38.out _ HC1.out).mono ?_; rintro e wq ⟨rfl, hb⟩; have HO2 := Aside0.mk (Kd.C_below HO.out hb); have n0_ := Aside0.mk (below_step HB1.out hb); clear HB1; have HB1 := n0_; clear n0_; have n1_ := Aside0.mk (Kd.C_below HC1.out hb); clear HC1; have HC1 := n1_; clear n1_; have n2_ := Aside0.mk (blk_below HR1.out hb); clear HR1; have HR1 := n2_; clear n2_; clear hb; have hx4 := HR1.out; have q0 : wq.cell? ⟨g1, 0, none⟩ = some (.bool true) := (cell_of hx4 0).trans rfl; have q1 : wq.cell? ⟨g1, 1, none⟩ = some (.int .i64 0) := (cell_of hx4 1).trans rfl; clear hx4))
 go_wp2_with (first | (go_at_call 17; refine (sanity_calls _).mono ?_; rintro e wf ⟨rfl, hb⟩; have HB5 := Aside0.mk (below_step HB1.out hb); have HC5 := Aside0.mk (Kd.C_below HC1.out hb); have HO5 := Aside0.mk (Kd.C_below HO2.out hb); clear hb) | (go_at_call 30; refine (HF.out _ HC5.out HO5.out).mono ?_; rintro e wg ⟨rfl, hb⟩; have HB6 := Aside0.mk (below_step HB5.out hb); clear hb))
 go_ret
 exact ⟨rfl, HB6.out⟩
set_option maxRecDepth 100000 in
set_option maxHeartbeats 4000000 in
theorem decides_unsat (n : Nat) (A : Option Addr) (c : Nat) (l : List S24) (w : World) (hr : Kd.C k24 w A l.length l) (hc : l.length ≤ c) (h60 : (l.length : Int) ≤ 60) (hk : checkE n l = 0) (hs : satB l = false) :
 Calls Try.prog 9 #[.int .i64 n, .slice A l.length c] w fun e w' => e = .returned (.bool true) ∧ Below w.heap.size w w' := by
 have hu61 := Try.underlying61
 have hu56 := Try.underlying56
 have HC := Aside0.mk hr
 have HB := Aside0.mk (Below.refl w.heap.size w)
 clear hr
 have H16 : Aside0 (∀ (W : World), Kd.C k24 W A l.length l → Calls Try.prog 16 #[.slice A l.length c] W fun e w' => e = .returned (.bool true) ∧ Below W.heap.size W w') := ⟨fun W h => (cosignerlaw12_short.calls A c l true W h hc (by unfold cosignerlaw12_short.f; rw [decide_eq_true h60])).mono fun e w' h => ⟨h.1, h.2.below⟩⟩
 obtain ⟨k1, k2, k3, k4⟩ := check_ok hk
 have F24 : Aside0 (∀ (W : World), Kd.C k24 W A l.length l → Calls Try.prog 24 #[.int .i64 n, .slice A l.length c] W fun e w' => e = .returned (.tuple #[.bool false, .int .i64 0]) ∧ Below W.heap.size W w') := ⟨fun W h => prove_Possible.calls n A c l _ _ W h hc (by unfold prove_Possible.f; rw [if_pos hk, hs])⟩
 have F36 : Aside0 (∀ (W : World), Kd.C k24 W A l.length l → Calls Try.prog 36 #[.int .i64 n, .slice A l.length c] W fun e w' => e = .returned (.agg #[.bool false, .int .i64 0]) ∧ Below W.heap.size W w') := ⟨fun W h => cosignerref12_Possible.calls 80 n A c l _ _ W h hc (by rw [Possible_f, if_pos hk, hs])⟩
 have F37 : Aside0 (∀ (W : World), Kd.C k24 W A l.length l → Calls Try.prog 37 #[.int .i64 n, .slice A l.length c] W fun e w' => e = .returned (.tuple #[.slice none 0 0, .int .i64 5]) ∧ Below W.heap.size W w') := ⟨fun W h => (model_unsat n A c l W h hc hk hs)⟩
 have F38 : Aside0 (∀ (W : World), Kd.C k24 W A l.length l → Calls Try.prog 38 #[.int .i64 n, .slice A l.length c] W fun e w' => ∃ (B : Option Addr) (d : Nat) (out : List S166), e = .returned (.tuple #[.slice B out.length d, .bool true, .int .i64 0]) ∧ out.length ≤ d ∧ Aside0 (Kd.C k166 w' B out.length out) ∧ Below W.heap.size W w' ∧ Aside0 (∀ V, Kd.C k24 V A l.length l → Kd.C k166 V B out.length out → Calls Try.prog 39 #[.int .i64 n, .slice A l.length c, .slice B out.length d] V fun e w' => e = .returned (.int .i64 0) ∧ Below V.heap.size V w')) := ⟨fun W h => (refute_no n A c l W h hc hk hs).mono fun e w' ⟨v, out, h1, h2, h3, t, h4, h5⟩ => by
  obtain ⟨B, d, rfl, hd, hC⟩ := Kd.R_reads h2
  exact ⟨B, d, out, h1, hd, ⟨hC⟩, h3, ⟨fun V hv hO => cosignerref12_CheckRefute.calls 500 n A c l B d out 0 V hv hc hO hd (checkRefute_ok hk h4 h5 500 (by omega))⟩⟩⟩
 go_enter Try.func9, Try.ntmps9
 go_upto_region 5 with (first | (go_at_call 16; refine (H16.out _ HC.out).mono ?_; rintro e wa ⟨rfl, hb⟩; have n0_ := Aside0.mk (below_step HB.out hb); clear HB; have HB := n0_; clear n0_; have n1_ := Aside0.mk (Kd.C_below HC.out hb); clear HC; have HC := n1_; clear n1_; clear hb) | (go_at_call 24; refine (F24.out _ HC.out).mono ?_; rintro e wb ⟨rfl, hb⟩; have n0_ := Aside0.mk (below_step HB.out hb); clear HB; have HB := n0_; clear n0_; have n1_ := Aside0.mk (Kd.C_below HC.out hb); clear HC; have HC := n1_; clear n1_; clear hb) | (go_at_call 36; refine (F36.out _ HC.out).mono ?_; rintro e wc ⟨rfl, hb⟩; have n0_ := Aside0.mk (below_step HB.out hb); clear HB; have HB := n0_; clear n0_; have n1_ := Aside0.mk (Kd.C_below HC.out hb); clear HC; have HC := n1_; clear n1_; clear hb))
 have hR1 := heap1_0 wc (.cells #[.bool false, .int .i64 0] 61)
 have hb1 := (Below.refl _ wc).alloc (Nat.le_refl _) (.cells #[.bool false, .int .i64 0] 61)
 have HC1 := Aside0.mk (Kd.C_below HC.out hb1)
 have HB1 := Aside0.mk (below_step HB.out hb1)
 have HR1 := Aside0.mk hR1
 clear HC HB hR1 hb1
 generalize (wc.alloc (.cells #[.bool false, .int .i64 0] 61)) = w1 at *
 generalize wc.heap.size = g1 at *
 go_upto_region 7 with (first | (go_at_call 37; refine (F37.out _ HC1.out).mono ?_; rintro e wp ⟨rfl, hb⟩; have n0_ := Aside0.mk (below_step HB1.out hb); clear HB1; have HB1 := n0_; clear n0_; have n1_ := Aside0.mk (Kd.C_below HC1.out hb); clear HC1; have HC1 := n1_; clear n1_; have n2_ := Aside0.mk (blk_below HR1.out hb); clear HR1; have HR1 := n2_; clear n2_; clear hb) | (go_at_call 38; refine (F38.out _ HC1.out).mono ?_; rintro e wq ⟨B, d, out, rfl, hd, HO2, hb, HF⟩; have n0_ := Aside0.mk (below_step HB1.out hb); clear HB1; have HB1 := n0_; clear n0_; have n1_ := Aside0.mk (Kd.C_below HC1.out hb); clear HC1; have HC1 := n1_; clear n1_; have n2_ := Aside0.mk (blk_below HR1.out hb); clear HR1; have HR1 := n2_; clear n2_; clear hb; have hx4 := HR1.out; have q0 : wq.cell? ⟨g1, 0, none⟩ = some (.bool false) := (cell_of hx4 0).trans rfl; have q1 : wq.cell? ⟨g1, 1, none⟩ = some (.int .i64 0) := (cell_of hx4 1).trans rfl; clear hx4))
 go_wp2_with (first | (go_at_call 17; refine (sanity_calls _).mono ?_; rintro e wf ⟨rfl, hb⟩; have HB5 := Aside0.mk (below_step HB1.out hb); have HC5 := Aside0.mk (Kd.C_below HC1.out hb); have HO5 := Aside0.mk (Kd.C_below HO2.out hb); clear hb) | (go_at_call 39; refine (HF.out _ HC5.out HO5.out).mono ?_; rintro e wg ⟨rfl, hb⟩; have HB6 := Aside0.mk (below_step HB5.out hb); clear hb))
 go_ret
 exact ⟨rfl, HB6.out⟩
theorem decides_walk (n : Int) (A : Option Addr) (c : Nat) (l : List S24) (w : World) (hr : Kd.C k24 w A l.length l) (hc : l.length ≤ c) :
 Calls Try.prog 9 #[.int .i64 n, .slice A l.length c] w fun e w' => e = .returned (.bool true) ∧ Below w.heap.size w w' := by
 by_cases h60 : (l.length : Int) ≤ 60
 · by_cases hk : checkE n l = 0
   · obtain ⟨h1, _, _, _⟩ := check_ok hk
     obtain ⟨n, rfl⟩ : ∃ m : Nat, n = m := ⟨n.toNat, by omega⟩
     cases hs : satB l
     · exact decides_unsat n A c l w hr hc h60 hk hs
     · exact decides_sat n A c l w hr hc h60 hk hs
   · exact decides_err n A c l w hr hc h60 hk
 · exact decides_short n A c l w hr hc h60
end Go.Proofs.Ytmoiickbgokloaa.PA
