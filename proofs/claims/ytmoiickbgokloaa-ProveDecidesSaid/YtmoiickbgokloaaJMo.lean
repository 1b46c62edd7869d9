/- Words and walks that the kit's printer wrote for this claim, less what the proofs do not use. -/
import Derived.Test.YtmoiickbgokloaaJHk
import Derived.Test.YtmoiickbgokloaaJMd
import Derived.Test.YtmoiickbgokloaaJCk
namespace Go.Proofs.Ytmoiickbgokloaa.PA
open Go.RowKit Go.Proofs.YtmoiickbgokloaaW.PrintWords Go.Proofs.YtmoiickbgokloaaW.PrintLast Go.Proofs.YtmoiickbgokloaaW.PrintMore Go.Proofs.Ytmoiickbgokloaa.Utv
set_option linter.unusedVariables false
set_option linter.unusedSimpArgs false
def ShutWide (l : List S24) (n : Nat) (w : World) (e : Ending) (w' : World) : Prop :=
 ∃ C B S T, e = .returned (.agg C) ∧ Aside0 (Below w.heap.size w w' ∧ Clo w' C n B T none ∧ Mat w' B S) ∧ Aside0 (C[50]? = some (.pointer none)) ∧ Aside0 (ShutOk l n S T)
theorem shut_wide (n : Nat) (A : Option Addr) (c : Nat) (l : List S24) (w : World) (hn : n ≤ 12) (hr : Rts n l) (hl : Kd.C k24 w A l.length l) (hc : l.length ≤ c) (hll : l.length ≤ 100) (hs : satB l = true) :
 Calls Try.prog 57 #[.int .i64 (n : Nat), .slice A l.length c] w (ShutWide l n w) :=
 (shut_calls n A c l w hn hr hl hc hll).mono fun e w' ⟨hb, C, B, S, T, no, he, hC, hM, h⟩ => by
  rcases h with ⟨h1, h2⟩ | ⟨g, t, h1, h2, h3⟩
  · subst h1; exact ⟨C, B, S, T, he, ⟨hb, hC, hM⟩, ⟨hC.2.2.2.2.2⟩, ⟨h2⟩⟩
  · have := h3.satB hr; rw [hs] at this; cases this
/-- What Model has found so far. -/
structure Mdl (n : Nat) (l : List S24) (xs : List Int) : Prop where
 sat : satB (fixL l xs) = true
 bnd : ∀ x, x ∈ xs → -((xs.length : Int) * 130000000) ≤ x ∧ x ≤ (xs.length : Int) * 130000000
theorem Mdl.next {n : Nat} {l : List S24} (hr : Rns n l) (hn : n ≤ 12) {xs : List Int} (h : Mdl n l xs) (hk : xs.length < n) {lo hi : Int} (hlo : Top (fixL l xs) (pt (xs.length : Nat) (-1)) lo) (hhi : Top (fixL l xs) (pt (xs.length : Nat) 1) hi) : Mdl n l (xs ++ [nextX lo hi]) := by
 obtain ⟨h1, h2, h3⟩ := next_ok hr hn hk (B := (xs.length : Int) * 130000000) (by omega) (by omega) h.bnd h.sat hlo hhi
 refine ⟨h1, fun x hx => ?_⟩
 have e : ((xs ++ [nextX lo hi]).length : Int) * 130000000 = (xs.length : Int) * 130000000 + 130000000 := by simp; omega
 rw [e]
 rcases List.mem_append.1 hx with hx | hx
 · have := h.bnd x hx; omega
 · simp at hx; subst hx; exact ⟨h2, h3⟩
theorem Mdl.rts {n : Nat} {l : List S24} (hr : Rns n l) (hn : n ≤ 12) {xs : List Int} (h : Mdl n l xs) (hk : xs.length ≤ n) : Rts n (fixL l xs) :=
 fixL_rts hr.w hk fun x hx => by have := h.bnd x hx; omega
theorem pt_rt2 {n k : Nat} (h1 : k < n) {s : Int} (hs : s = 1 ∨ s = -1) : Rt n (pt (k : Nat) s) := pt_rt (by omega) (by omega) hs
set_option maxRecDepth 100000 in
set_option maxHeartbeats 1000000 in
theorem model_err (n : Int) (A : Option Addr) (c : Nat) (l : List S24) (w : World) (hr : Kd.C k24 w A l.length l) (hc : l.length ≤ c) (hk : checkE n l ≠ 0) :
 Calls Try.prog 37 #[.int .i64 n, .slice A l.length c] w fun e w' => e = .returned (.tuple #[.slice none 0 0, .int .i64 (checkE n l)]) ∧ Below w.heap.size w w' := by
 have HL := Aside0.mk hr
 have hcb : (checkE n l != 0) = true := by rw [bne_iff_ne]; exact hk
 clear hr hk
 go_enter Try.func37, Try.ntmps37
 go_wp2_with (go_at_call 31; refine (check_calls n A c l _ HL.out hc).mono ?_; rintro e w1 ⟨rfl, hb1⟩; have HB1 := Aside0.mk hb1; clear hb1)
 go_ret2
 exact ⟨rfl, HB1.out⟩
set_option maxRecDepth 100000 in
set_option maxHeartbeats 1000000 in
theorem model_unsat (n : Nat) (A : Option Addr) (c : Nat) (l : List S24) (w : World) (hr : Kd.C k24 w A l.length l) (hc : l.length ≤ c) (hk : checkE n l = 0) (hs : satB l = false) :
 Calls Try.prog 37 #[.int .i64 (n : Nat), .slice A l.length c] w fun e w' => e = .returned (.tuple #[.slice none 0 0, .int .i64 5]) ∧ Below w.heap.size w w' := by
 have hu105 := Try.underlying105
 obtain ⟨h1, h2, h3, h4⟩ := check_ok hk
 have HR := Aside0.mk h4
 have HS := Aside0.mk hs
 have HL := Aside0.mk hr
 have HCH : ∀ W, Kd.C k24 W A l.length l → Calls Try.prog 31 #[.int .i64 (n : Nat), .slice A l.length c] W fun e w' => e = .returned (.int .i64 0) ∧ Below W.heap.size W w' := fun W h => by have := check_calls n A c l W h hc; rwa [hk] at this
 have HCC := Aside0.mk HCH
 clear hr h4 hs HCH
 go_enter Try.func37, Try.ntmps37
 go_wp2_with (first | (go_at_call 31; refine (HCC.out _ HL.out).mono ?_; rintro e w1 ⟨rfl, hb1⟩; have HB1 := Aside0.mk hb1; have HL1 := Aside0.mk (Kd.C_below HL.out hb1); clear hb1) | (go_at_call 57; refine (shut_told n A c l _ (by omega) HR.out.w HL1.out hc h3).mono ?_; rintro e w2 ⟨C, B, S, T, no, rfl, HCL, H50, (⟨rfl, HOK, hsat⟩ | ⟨⟨gq, rfl, HT⟩, hsat⟩)⟩ <;> first | (exact (Bool.noConfusion (HS.out.symm.trans hsat))) | (have hf := field105 C _ H50.out; have HSAT := Aside0.mk hsat; clear hsat)))
 go_ret2
 exact ⟨rfl, below_step HB1.out HCL.out.1⟩
set_option maxRecDepth 100000 in
set_option maxHeartbeats 4000000 in
theorem model_sat (n : Nat) (A : Option Addr) (c : Nat) (l : List S24) (w : World) (hr : Kd.C k24 w A l.length l) (hc : l.length ≤ c) (hk : checkE n l = 0) (hs : satB l = true) :
 Calls Try.prog 37 #[.int .i64 (n : Nat), .slice A l.length c] w fun e w' => ∃ v xs, e = .returned (.tuple #[v, .int .i64 0]) ∧ Kd.R (Kd.int .i64) 3 w' w.heap.size (fun _ => True) v xs ∧ xs.length = n ∧ Mdl n l xs ∧ Below w.heap.size w w' := by
 have hu105 := Try.underlying105
 have hu102 := Try.underlying102
 have hu103 := Try.underlying103
 have hu24 := Try.underlying24
 have hu3 := Try.underlying3
 obtain ⟨h1, h2, h3, h4⟩ := check_ok hk
 have HR := Aside0.mk h4
 have HS := Aside0.mk hs
 have HL := Aside0.mk hr
 have HCH : ∀ W, Kd.C k24 W A l.length l → Calls Try.prog 31 #[.int .i64 (n : Nat), .slice A l.length c] W fun e w' => e = .returned (.int .i64 0) ∧ Below W.heap.size W w' := fun W h => by have := check_calls n A c l W h hc; rwa [hk] at this
 have HCC := Aside0.mk HCH
 have HM0 : Aside0 (Mdl n l []) := ⟨⟨by unfold fixL fixFrom; rw [List.append_nil]; exact hs, fun x hx => by simp at hx⟩⟩
 clear hr h4 hs HCH
 go_enter Try.func37, Try.ntmps37
 go_upto_region 9 with (first | (go_at_call 31; refine (HCC.out _ HL.out).mono ?_; rintro e w1 ⟨rfl, hb1⟩; have HB1 := Aside0.mk hb1; have HL1 := Aside0.mk (Kd.C_below HL.out hb1); clear hb1) | (go_at_call 57; refine (shut_told n A c l _ (by omega) HR.out.w HL1.out hc h3).mono ?_; rintro e w2 ⟨C, B, S, T, no, rfl, HCL, H50, (⟨rfl, HOK, hsat⟩ | ⟨⟨gq, rfl, HT⟩, hsat⟩)⟩ <;> first | (exact (Bool.noConfusion (HS.out.symm.trans hsat))) | (have hf := field105 C _ H50.out; have HB2 := Aside0.mk (below_step HB1.out HCL.out.1); have HL2 := Aside0.mk (Kd.C_below HL1.out HCL.out.1); clear hsat HOK)) | (go_at_call 82; refine (clone82_calls A c l _ HL2.out hc (by omega)).mono ?_; rintro e w3 ⟨v7, rfl, hv, hb⟩; obtain ⟨A7, c7, rfl⟩ := Kd.R_slice hv; have HV := Aside0.mk (Kd.R_lower hv (below_size HB2.out)); have HB3 := Aside0.mk (below_step HB2.out hb); clear hv hb))
 clear HCL H50 hf
 go_loopw [7, 8, 28] (fun v7 v8 v28 wr => ∃ (xs : List Int) (A7 : Option Addr) (c7 : Nat) (A8 : Option Addr) (c8 : Nat), v28 = .int .i64 (xs.length : Nat) ∧ xs.length ≤ n ∧ v7 = .slice A7 (fixL l xs).length c7 ∧ v8 = .slice A8 xs.length c8 ∧ Aside0 (Kd.R k24 24 wr w.heap.size (fun _ => True) (.slice A7 (fixL l xs).length c7) (fixL l xs)) ∧ Aside0 (Kd.R (Kd.int .i64) 3 wr w.heap.size (fun _ => True) (.slice A8 xs.length c8) xs) ∧ Aside0 (Mdl n l xs) ∧ Aside0 (Below w.heap.size w wr)) (fun _ _ v _ => n - (intOf v).toNat)
 case atStart =>
  have e0 : fixL l [] = l := by unfold fixL fixFrom; rw [List.append_nil]
  refine ⟨[], A7, c7, none, 0, rfl, by simp, by rw [e0], rfl, ⟨by rw [e0]; exact HV.out⟩, ⟨Kd.R_nil _ _ _ _ _⟩, HM0, HB3⟩
 case round =>
 clear HV HB3 HM0
 obtain ⟨xs, A7, c7, A8, c8, rfl, hxn, rfl, rfl, H7, H8, HM, HB⟩ := hrel
 by_cases hkn : xs.length < n
 · have hid : decide (((xs.length : Nat) : Int) < ((n : Nat) : Int)) = true := decide_eq_true (by omega)
   have hll : (fixL l xs).length = l.length + 2 * xs.length := fixL_len l xs
   have HRT : Aside0 (Rts n (fixL l xs)) := ⟨HM.out.rts HR.out (by omega) (by omega)⟩
   obtain ⟨H7a, H7c, H7b⟩ : Aside0 (Kd.C k24 wr A7 (fixL l xs).length (fixL l xs)) ∧ (fixL l xs).length ≤ c7 ∧ True := by
    obtain ⟨A', c', e, hcc, hC⟩ := Kd.R_reads H7.out
    injection e with e1 e2 e3
    subst e1 e3
    exact ⟨⟨hC⟩, hcc, trivial⟩
   have HSM := Aside0.mk HM.out.sat
   obtain ⟨m, hmd⟩ : ∃ m, m = fixL l xs := ⟨_, rfl⟩
   obtain ⟨k, hkd⟩ : ∃ k, k = xs.length := ⟨_, rfl⟩
   have HMD := Aside0.mk hmd
   have HKD := Aside0.mk hkd
   rw [← hmd] at HSM HRT H7 H7a H7c hll ⊢
   rw [← hkd] at H8 hkn hid hll hxn ⊢
   have hk12 : k ≤ 11 := by omega
   have hmll : m.length ≤ 100 := by omega
   clear hmd hkd hll H7b
   go_upto_region 13 with (first | (go_at_call 57; refine (shut_wide n A7 c7 m _ (by omega) HRT.out H7a.out H7c hmll HSM.out).mono ?_; rintro e w2 ⟨C, B, S, T, rfl, HCL, H50, HOK⟩) | ((with_reducible refine gate_dst (N := 10) rfl ?_); refine alloc_event rfl rfl rfl (alloc105 _) ?_; intro G hg4 w3 hw1 hb1; have EG := Aside0.mk hg4; clear hg4; have GG := Aside0.mk hw1; have B3 := Aside0.mk hb1; clear hw1 hb1; simp only [Act.put, List.setIfInBounds_toArray, List.set_cons_zero, List.set_cons_succ]) | ((with_reducible refine gate_store (t := 105) (p := 10) rfl ?_); refine storeRow_event (T := 105) (p := 10) (y := .tmp 33) (t := 105) (old := z105 (.int .i64 0) (.pointer none)) (C := C) (g := G) rfl rfl rfl rfl rfl GG.out ?a7 ?a8 ?a9 ?_; (case a7 => rw [HCL.out.2.1.1]; exact info105); (case a8 => rw [size_z105, HCL.out.2.1.1]); (case a9 => exact HCL.out.2.1.2.1); intro w4 hw9 hb9 hsz9; have HW4 := Aside0.mk hw9; have HG4 := Aside0.mk hb9; clear hw9 hb9 hsz9))
   have h04 : Below wr.heap.size wr w4 ∧ _ := stored HCL.out.1 EG.out B3.out HG4.out HCL.out.2.1 HCL.out.2.2
   obtain ⟨h14, _, hC5, hM5⟩ := h04
   have HB4 := Aside0.mk h14
   have hCB : CloB w4 G n B T none := ⟨C, HW4.out, hC5⟩
   have hk0 : (0 : Int) ≤ (k : Nat) := by omega
   have hk1 : ((k : Nat) : Int) < (n : Nat) := by omega
   obtain ⟨lo, hlo⟩ : ∃ lo, lo = (ofM S T (pt (k : Nat) (-1))).1 := ⟨_, rfl⟩
   obtain ⟨hi, hhi⟩ : ∃ hi, hi = (ofM S T (pt (k : Nat) 1)).1 := ⟨_, rfl⟩
   have hTl : Top m (pt (k : Nat) (-1)) lo := by rw [hlo]; exact HOK.out.of HRT.out (pt_rt2 (by omega) (Or.inr rfl))
   have hTh : Top m (pt (k : Nat) 1) hi := by rw [hhi]; exact HOK.out.of HRT.out (pt_rt2 (by omega) (Or.inl rfl))
   have HTL := Aside0.mk hTl
   have HTH := Aside0.mk hTh
   have hwr : IntKind.i64.wrap (-lo) = -lo := by
    have hb := Top.bounds hTl
    rw [i64_w]; unfold wrap64; omega
   have hl1 : (T (endN (k : Nat) (-1))).1 = lo := hlo.symm
   have hh1 : (T (endN (k : Nat) 1)).1 = hi := hhi.symm
   have hi1 := endN_lt (s := -1) hk0 hk1
   have hi2 := endN_lt (s := 1) hk0 hk1
   have hi1' : endN (k : Nat) (-1) < 24 := by omega
   have hi2' : endN (k : Nat) 1 < 24 := by omega
   have t1 := hCB.top0 hi1'
   have t2 := hCB.top0 hi2'
   rw [hl1] at t1
   rw [hh1] at t2
   have hE1 : ∀ W, Calls Try.prog 63 #[.int .i64 (k : Nat), .int .i64 (-1)] W fun e w' => e = .returned (.int .i64 (endN (k : Nat) (-1) : Nat)) ∧ W = w' := fun W => end_same (k : Nat) (-1) W hk0 (by omega)
   have hE2 : ∀ W, Calls Try.prog 63 #[.int .i64 (k : Nat), .int .i64 1] W fun e w' => e = .returned (.int .i64 (endN (k : Nat) 1 : Nat)) ∧ W = w' := fun W => end_same (k : Nat) 1 W hk0 (by omega)
   have HE1 := Aside0.mk hE1
   have HE2 := Aside0.mk hE2
   have H7d := Aside0.mk (Kd.R_below H7.out h14)
   have H8d := Aside0.mk (Kd.R_below H8.out h14)
   have HBd := Aside0.mk (below_step HB.out h14)
   generalize endN (k : Nat) (-1) = p at *
   generalize endN (k : Nat) 1 = q at *
   have hp24 : (p : Int) < 24 := by omega
   have hq24 : (q : Int) < 24 := by omega
   clear hE1 hE2 h14 B3 GG HG4 hC5 hM5 hlo hhi hl1 hh1 hTl hTh H7 H8 HB HCL EG H50 HOK H7a
   obtain ⟨p1, c11, _⟩ := hCB.top1 (i := p) hi1'
   obtain ⟨p2, c21, _⟩ := hCB.top1 (i := q) hi2'
   clear hCB hi1 hi2 hi1' hi2'
   go_cut [12, 13] (fun v12 v13 wc => ∃ g h : Nat, v12 = .pointer (some ⟨g, 0, none⟩) ∧ v13 = .pointer (some ⟨h, 0, none⟩) ∧ Aside0 (wc.heap[g]? = some (.cells #[.int .i64 lo, .pointer p1] 102 (0, 0))) ∧ Aside0 (wc.heap[h]? = some (.cells #[.int .i64 hi, .pointer p2] 102 (0, 0))) ∧ Aside0 (Below w4.heap.size w4 wc))
   case first =>
    go_region_held3 (fun w' => w'.cell? ⟨G, 2 + p * 2, none⟩ = some (.int .i64 lo) ∧ w'.cell? ⟨G, 2 + p * 2 + 1, none⟩ = some (.pointer p1) ∧ w'.cell? ⟨G, 2 + q * 2, none⟩ = some (.int .i64 hi) ∧ w'.cell? ⟨G, 2 + q * 2 + 1, none⟩ = some (.pointer p2)) (go_keep) ((go_at_call 63; first | ((with_reducible refine (HE1.out _).mono ?_); rintro e w7 ⟨rfl, rfl⟩) | ((with_reducible refine (HE2.out _).mono ?_); rintro e w7 ⟨rfl, rfl⟩)))
    all_goals (go_wp2_with fail; go_meet)
    all_goals first
     | exact ⟨w4.heap.size, w4.heap.size + 1, rfl, rfl, ⟨blk_drew (heap2_0 _ _ _)⟩, ⟨blk_drew (heap2_1 _ _ _)⟩, ⟨(((Below.refl _ w4).alloc (Nat.le_refl _) _).alloc (by simp) _).drew⟩⟩
     | exact ⟨w4.heap.size + 1, w4.heap.size, rfl, rfl, ⟨blk_drew (heap2_1 _ _ _)⟩, ⟨blk_drew (heap2_0 _ _ _)⟩, ⟨(((Below.refl _ w4).alloc (Nat.le_refl _) _).alloc (by simp) _).drew⟩⟩
   case rest =>
   obtain ⟨g, h, rfl, rfl, HX, HY, HBX⟩ := hcut
   have H7e := Aside0.mk (Kd.R_below H7d.out HBX.out)
   have H8e := Aside0.mk (Kd.R_below H8d.out HBX.out)
   have HBe := Aside0.mk (below_step HBd.out HBX.out)
   have x0 : wc.cell? ⟨g, 0, none⟩ = some (.int .i64 lo) := (cell_of HX.out 0).trans rfl
   have z0 : wc.cell? ⟨h, 0, none⟩ = some (.int .i64 hi) := (cell_of HY.out 0).trans rfl
   have HNX : Aside0 (Mdl n l (xs ++ [nextX lo hi])) := ⟨by
    have a1 := HTL.out
    have a2 := HTH.out
    rw [HMD.out, HKD.out] at a1 a2
    exact HM.out.next HR.out (by omega) (by rw [← HKD.out]; exact hkn) a1 a2⟩
   have hfa : far = 1152921504606846976 := far_def
   obtain ⟨x, hx⟩ : ∃ x, x = nextX lo hi := ⟨_, rfl⟩
   have hwx : IntKind.i64.wrap (-x) = -x := by
    have := (HNX.out.bnd x (by rw [hx]; simp))
    have e : ((xs ++ [nextX lo hi]).length : Int) ≤ 13 := by rw [List.length_append, ← HKD.out]; simp; omega
    rw [i64_w]; unfold wrap64; omega
   rw [← hx] at HNX
   have HXX := Aside0.mk hx
   have HW2 : Aside0 (wrap64 x = x) := ⟨by
    have := (HNX.out.bnd x (by simp))
    have e : ((xs ++ [x]).length : Int) ≤ 13 := by rw [List.length_append, ← HKD.out]; simp; omega
    unfold wrap64; omega⟩
   have HFA := Aside0.mk hfa
   clear hx hfa t1 t2 c11 c21 H7d H8d HBd HBX HB4 HX HY HTL HTH HE1 HE2
   go_upto_if 46 with (fail)
   go_cut [11] (fun v11 wc2 => v11 = .int .i64 x ∧ wc2 = wc)
   case first =>
    by_cases f1 : lo < 1152921504606846976
    · have f1' : decide (lo < 1152921504606846976) = true := decide_eq_true f1
      have ex : -lo = x := by rw [HXX.out]; unfold nextX; rw [HFA.out, if_pos f1]
      go_wp2_with fail
      go_meet
      exact ⟨by rw [HW2.out], rfl⟩
    · have f1' : decide (lo < 1152921504606846976) = false := decide_eq_false f1
      by_cases f2 : hi < 1152921504606846976
      · have f2' : decide (hi < 1152921504606846976) = true := decide_eq_true f2
        have ex : Aside0 (hi = x) := ⟨by rw [HXX.out]; unfold nextX; rw [HFA.out, if_neg f1, if_pos f2]⟩
        go_wp2_with fail
        go_meet
        exact ⟨by rw [ex.out], rfl⟩
      · have f2' : decide (hi < 1152921504606846976) = false := decide_eq_false f2
        have ex : Aside0 (0 = x) := ⟨by rw [HXX.out]; unfold nextX; rw [HFA.out, if_neg f1, if_neg f2]⟩
        go_wp2_with fail
        go_meet
        exact ⟨by rw [ex.out], rfl⟩
   case rest =>
   obtain ⟨rfl, rfl⟩ := hcut
   clear x0 z0
   have hxk : xs.length = k := HKD.out.symm
   go_upto_region 19 with (first
    | ((with_reducible refine gate_builtin (b := .append) (xs := #[.tmp 55, .tmp 57]) rfl ?_); at_builtin; refine Kd.R_append (Kd.int .i64) (w0 := w) w.heap.size rfl (.tmp 55) (.tmp 57) 46 3 (.int .i64 0) 8 rfl Try.underlying46 info3 rfl (by decide) (by omega) (.slice A8 k c8) xs x [.int .i64 x] (fun _ => True) (fun _ => False) rfl rfl ?aP (fun _ hk => hk.elim) ?aF ?aO ?aB ?aS ?aL ?_; (case aP => exact rfl); (case aB => exact HBe.out); (case aF => exact (fun _ _ => trivial)); (case aO => exact H8e.out); (case aS => exact below_size HBe.out); (case aL => omega); intro v58 w58 ho hb hg hat; have H7f := Aside0.mk (Kd.R_over H7e.out H8e.out (by decide) hg); have H8f := Aside0.mk ho; have HBf := Aside0.mk hb; clear ho hb hg hat))
   go_wp2_with (first
    | ((with_reducible refine gate_dst (N := 67) rfl ?_); refine Kd.R_lit k24 (w0 := w) w.heap.size 24 ?hg (N := 67) ?hd (xs := ([⟨(k : Nat), 1, 0, 0, x⟩, ⟨(k : Nat), -1, 0, 0, -x⟩] : List S24)) (inner := [.int .i64 (k : Nat), .int .i64 1, .int .i64 0, .int .i64 0, .int .i64 x, .int .i64 (k : Nat), .int .i64 (-1), .int .i64 0, .int .i64 0, .int .i64 (-x)]) (ok := fun _ => True) (okp := fun _ => True) ?hr ?hp (fun _ hk => hk) trivial HBf.out (below_size HBf.out) (by simp) ?_; (case hd => rfl); (case hg => rfl); (case hr => first | (go_simp; done) | (go_simp; rfl)); (case hp => exact (Reps.c5 (show Kd.M k24 _ _ _ (⟨(k : Nat), 1, 0, 0, x⟩ : S24) [.int .i64 (k : Nat), .int .i64 1, .int .i64 0, .int .i64 0, .int .i64 x] from (k24_mkM _ _ _ _)) (Reps.c5 (show Kd.M k24 _ _ _ (⟨(k : Nat), -1, 0, 0, -x⟩ : S24) [.int .i64 (k : Nat), .int .i64 (-1), .int .i64 0, .int .i64 0, .int .i64 (-x)] from (k24_mkM _ _ _ _)) (Reps.none _ _)))); intro v67 w67 ho hb hg hat; have HLT := Aside0.mk ho; have H7g := Aside0.mk (Kd.R_grown H7f.out hg (fun _ _ => by simp)); have H8g := Aside0.mk (Kd.R_grown H8f.out hg (fun _ _ => by simp)); have HBg := Aside0.mk hb; clear ho hb hg hat)
    | ((with_reducible refine gate_builtin (b := .append) (xs := #[.tmp 59, .tmp 67]) rfl ?_); at_builtin; obtain ⟨AL, cL, eL, _, hLC⟩ := Kd.R_reads HLT.out; refine Kd.R_append_rows k24 (w0 := w) w.heap.size rfl (.tmp 59) (.tmp 67) 22 24 (.agg #[(.int .i64 0), (.int .i64 0), (.int .i64 0), (.int .i64 0), (.int .i64 0)]) 40 rfl Try.underlying22 info24 rfl (by decide) (by omega) (.slice A7 m.length c7) m [⟨(k : Nat), 1, 0, 0, x⟩, ⟨(k : Nat), -1, 0, 0, -x⟩] AL 2 cL (fun _ => True) (fun _ => False) rfl eL H7g.out hLC (fun x cs h => by obtain rfl := k24_open h; exact k24_mkM _ _ _ x) (fun _ h => h.elim) (fun _ _ => trivial) HBg.out (below_size HBg.out) (by omega) ?_; intro v68 w68 ho hb hg hat; have H8h := Aside0.mk (Kd.R_over H8g.out H7g.out (by decide) hg); have H7h := Aside0.mk ho; have HBh := Aside0.mk hb; clear ho hb hg hat))
   have e1 : fixL l (xs ++ [x]) = m ++ [⟨(k : Nat), 1, 0, 0, x⟩, ⟨(k : Nat), -1, 0, 0, -x⟩] := by rw [fixL_snoc, HMD.out, HKD.out]
   have H7i := H7h.out
   have H8i := H8h.out
   rw [← e1] at H7i
   obtain ⟨A7n, c7n, rfl⟩ := Kd.R_slice H7i
   obtain ⟨A8n, c8n, rfl⟩ := Kd.R_slice H8i
   have e3 : (xs ++ [x]).length = k + 1 := by simp; omega
   refine ⟨⟨xs ++ [x], A7n, c7n, A8n, c8n, by rw [e3]; go_num, by omega, rfl, rfl, ⟨H7i⟩, ⟨H8i⟩, HNX, HBh⟩, ?_⟩
   simp [intOf]; omega
 · obtain rfl : xs.length = n := by omega
   have hid : decide (((xs.length : Nat) : Int) < ((xs.length : Nat) : Int)) = false := decide_eq_false (by omega)
   go_wp2_with fail
   go_ret2
   exact ⟨_, xs, rfl, H8.out, rfl, HM.out, HB.out⟩
end Go.Proofs.Ytmoiickbgokloaa.PA
