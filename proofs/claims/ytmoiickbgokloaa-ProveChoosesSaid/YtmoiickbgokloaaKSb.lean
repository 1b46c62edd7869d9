/- Contract by hand: sanity. -/
import Derived.Test.YtmoiickbgokloaaKSa
namespace Go.Proofs.Ytmoiickbgokloaa.PA
open Go.RowKit Go.Proofs.YtmoiickbgokloaaW.PrintWords Go.Proofs.YtmoiickbgokloaaW.PrintLast Go.Proofs.YtmoiickbgokloaaW.PrintMore Go.Proofs.Ytmoiickbgokloaa.Utv
set_option linter.unusedVariables false
set_option linter.unusedSimpArgs false
theorem line55 (p a q b m : Int) (w : World) : Calls Try.prog 55 #[.int .i64 p, .int .i64 a, .int .i64 q, .int .i64 b, .int .i64 m] w fun e w' => e = .returned (.agg #[.int .i64 a, .int .i64 p, .int .i64 b, .int .i64 q, .int .i64 m]) ∧ Below w.heap.size w w' :=
 cosignerlaw12_line.calls p a q b m a p b q m w rfl
theorem span_g {n : Int} {l : List S24} {k lo hi : Int} (h : indexE n l k = 0) (hs : satB l = true) (h1 : topV l (pt k (-1)) = lo) (h2 : topV l (pt k 1) = hi) (h3 : lo ≠ 1152921504606846976) (h4 : hi ≠ 1152921504606846976) : prove_Span.g n l k = (-lo, hi, 0) := by
 unfold prove_Span.g
 rw [if_pos h, if_pos hs, h1, h2, if_neg (fun h => h.elim h3 h4)]
theorem most_g {n : Int} {l : List S24} {a : S24} {v : Int} (h : lineE n l a = 0) (hs : satB l = true) (h1 : topV l a = v) (h3 : v ≠ 1152921504606846976) : prove_Most.g n l a = (v, 0) := by
 unfold prove_Most.g
 rw [if_pos h, if_pos hs, h1, if_neg h3]
theorem ent_g {n : Int} {l : List S24} {a : S24} {b : Bool} (h : lineE n l a = 0) (h1 : entB l a = b) : prove_Entails.g n l a = (b, 0) := by
 unfold prove_Entails.g
 rw [if_pos h, h1]
theorem two_alloc (W : World) (x y : Int) : Kd.C (Kd.int .i64) (W.alloc (.cells #[.int .i64 x, .int .i64 y] 3)) (some ⟨W.heap.size, 0, none⟩) [x, y].length [x, y] := by
 have ho := own_lit_of (enc := Value.int .i64) W W.heap.size 3 [x, y] (Nat.le_refl _) (by simp)
 have hR : Kd.R (Kd.int .i64) 3 (W.alloc (.cells #[.int .i64 x, .int .i64 y] 3)) W.heap.size (fun _ => True) (.slice (some ⟨W.heap.size, 0, none⟩) [x, y].length [x, y].length) [x, y] := Kd.R_of_own (enc := Value.int .i64) (h1 := fun _ => rfl) ho (fun _ _ => trivial)
 obtain ⟨A, c, he, _, hC⟩ := Kd.R_reads hR
 injection he with a b c
 rw [← a] at hC
 exact hC
theorem same_l0 (l : List Int) (hl : l.length ≤ 1000000) : ∀ (d i k : Nat), i + d = l.length → d + 1 ≤ k → cosignerref12_SameInts.l0 k l l i = some true
 | d, i, k + 1, hi, hk => by
  simp only [cosignerref12_SameInts.l0]
  by_cases hd : d = 0
  · rw [if_neg (by omega)]
  · rw [if_pos (by omega), if_pos (by omega), if_pos (by omega), if_pos trivial, w64 (by omega) (by omega)]
    exact same_l0 l hl (d - 1) (i + 1) k (by omega) (by omega)
theorem same_f (l : List Int) (hl : l.length ≤ 1000000) (k : Nat) (hk : l.length + 1 ≤ k) : cosignerref12_SameInts.f k l l = some true := by
 unfold cosignerref12_SameInts.f
 rw [if_pos rfl]
 exact same_l0 l hl l.length 0 k (by omega) hk
set_option maxRecDepth 100000 in
set_option maxHeartbeats 8000000 in
theorem sanity_calls (w : World) : Calls Try.prog 17 #[] w fun e w' => e = .returned (.bool true) ∧ Below w.heap.size w w' := by
 obtain ⟨L, hL⟩ : ∃ L, L = three := ⟨_, rfl⟩
 obtain ⟨L3, hL3⟩ : ∃ L, L = three3 := ⟨_, rfl⟩
 obtain ⟨L6, hL6⟩ : ∃ L, L = three6 := ⟨_, rfl⟩
 obtain ⟨O, hO⟩ : ∃ L, L = odd := ⟨_, rfl⟩
 obtain ⟨core, hcore⟩ : ∃ L : List Int, L = [0, 5] := ⟨_, rfl⟩
 have HP : Aside0 (∀ (W : World) (A : Option Addr) (c : Nat), Kd.C k24 W A L.length L → L.length ≤ c → Calls Try.prog 24 #[.int .i64 3, .slice A L.length c] W fun e w' => e = .returned (.tuple #[.bool true, .int .i64 0]) ∧ Below W.heap.size W w') := ⟨fun W A c h hc => by
  exact prove_Possible.calls 3 A c L true 0 W h hc (by unfold prove_Possible.f; rw [hL, three_check, if_pos rfl, three_yes])⟩
 have HS0 : Aside0 (∀ (W : World) (A : Option Addr) (c : Nat), Kd.C k24 W A L.length L → L.length ≤ c → Calls Try.prog 20 #[.int .i64 3, .slice A L.length c, .int .i64 0] W fun e w' => e = .returned (.tuple #[.int .i64 2, .int .i64 3, .int .i64 0]) ∧ Below W.heap.size W w') := ⟨fun W A c h hc => by
  have e : prove_Span.g 3 L 0 = (2, 3, 0) := by rw [hL]; exact span_g (by decide) three_yes t0lo t0hi (by decide) (by decide)
  have hh := Span_calls 3 A c L 0 W h hc
  rw [e] at hh
  exact hh⟩
 have HS1 : Aside0 (∀ (W : World) (A : Option Addr) (c : Nat), Kd.C k24 W A L.length L → L.length ≤ c → Calls Try.prog 20 #[.int .i64 3, .slice A L.length c, .int .i64 1] W fun e w' => e = .returned (.tuple #[.int .i64 0, .int .i64 2, .int .i64 0]) ∧ Below W.heap.size W w') := ⟨fun W A c h hc => by
  have e : prove_Span.g 3 L 1 = (0, 2, 0) := by rw [hL]; exact span_g (by decide) three_yes t1lo t1hi (by decide) (by decide)
  have hh := Span_calls 3 A c L 1 W h hc
  rw [e] at hh
  exact hh⟩
 have HS2 : Aside0 (∀ (W : World) (A : Option Addr) (c : Nat), Kd.C k24 W A L.length L → L.length ≤ c → Calls Try.prog 20 #[.int .i64 3, .slice A L.length c, .int .i64 2] W fun e w' => e = .returned (.tuple #[.int .i64 2, .int .i64 3, .int .i64 0]) ∧ Below W.heap.size W w') := ⟨fun W A c h hc => by
  have e : prove_Span.g 3 L 2 = (2, 3, 0) := by rw [hL]; exact span_g (by decide) three_yes t2lo t2hi (by decide) (by decide)
  have hh := Span_calls 3 A c L 2 W h hc
  rw [e] at hh
  exact hh⟩
 have HM1 : Aside0 (∀ (W : World) (A : Option Addr) (c : Nat), Kd.C k24 W A L.length L → L.length ≤ c → Calls Try.prog 18 #[.int .i64 3, .slice A L.length c, .agg #[.int .i64 0, .int .i64 1, .int .i64 1, .int .i64 1, .int .i64 0]] W fun e w' => e = .returned (.tuple #[.int .i64 5, .int .i64 0]) ∧ Below W.heap.size W w') := ⟨fun W A c h hc => by
  have e : prove_Most.g 3 L ⟨0, 1, 1, 1, 0⟩ = (5, 0) := by rw [hL]; exact most_g (by decide) three_yes tm1 (by decide)
  have hh := Most_calls 3 A c L ⟨0, 1, 1, 1, 0⟩ W h hc
  rw [e] at hh
  exact hh⟩
 have HM2 : Aside0 (∀ (W : World) (A : Option Addr) (c : Nat), Kd.C k24 W A L.length L → L.length ≤ c → Calls Try.prog 18 #[.int .i64 3, .slice A L.length c, .agg #[.int .i64 1, .int .i64 1, .int .i64 2, .int .i64 1, .int .i64 0]] W fun e w' => e = .returned (.tuple #[.int .i64 5, .int .i64 0]) ∧ Below W.heap.size W w') := ⟨fun W A c h hc => by
  have e : prove_Most.g 3 L ⟨1, 1, 2, 1, 0⟩ = (5, 0) := by rw [hL]; exact most_g (by decide) three_yes tm2 (by decide)
  have hh := Most_calls 3 A c L ⟨1, 1, 2, 1, 0⟩ W h hc
  rw [e] at hh
  exact hh⟩
 have HE1 : Aside0 (∀ (W : World) (A : Option Addr) (c : Nat), Kd.C k24 W A L.length L → L.length ≤ c → Calls Try.prog 25 #[.int .i64 3, .slice A L.length c, .agg #[.int .i64 2, .int .i64 1, .int .i64 0, .int .i64 0, .int .i64 3]] W fun e w' => e = .returned (.tuple #[.bool true, .int .i64 0]) ∧ Below W.heap.size W w') := ⟨fun W A c h hc => by
  have e : prove_Entails.g 3 L ⟨2, 1, 0, 0, 3⟩ = (true, 0) := by rw [hL]; exact ent_g (by decide) ent1
  have hh := Entails_calls 3 A c L ⟨2, 1, 0, 0, 3⟩ W h hc
  rw [e] at hh
  exact hh⟩
 have HE2 : Aside0 (∀ (W : World) (A : Option Addr) (c : Nat), Kd.C k24 W A L.length L → L.length ≤ c → Calls Try.prog 25 #[.int .i64 3, .slice A L.length c, .agg #[.int .i64 1, .int .i64 1, .int .i64 0, .int .i64 0, .int .i64 1]] W fun e w' => e = .returned (.tuple #[.bool false, .int .i64 0]) ∧ Below W.heap.size W w') := ⟨fun W A c h hc => by
  have e : prove_Entails.g 3 L ⟨1, 1, 0, 0, 1⟩ = (false, 0) := by rw [hL]; exact ent_g (by decide) ent2
  have hh := Entails_calls 3 A c L ⟨1, 1, 0, 0, 1⟩ W h hc
  rw [e] at hh
  exact hh⟩
 have HU0 : Aside0 (∀ (W : World) (A : Option Addr) (c : Nat), Kd.C k24 W A L3.length L3 → L3.length ≤ c → Calls Try.prog 20 #[.int .i64 3, .slice A L3.length c, .int .i64 0] W fun e w' => e = .returned (.tuple #[.int .i64 2, .int .i64 2, .int .i64 0]) ∧ Below W.heap.size W w') := ⟨fun W A c h hc => by
  have e : prove_Span.g 3 L3 0 = (2, 2, 0) := by rw [hL3]; exact span_g (by decide) three3_yes u0lo u0hi (by decide) (by decide)
  have hh := Span_calls 3 A c L3 0 W h hc
  rw [e] at hh
  exact hh⟩
 have HK : Aside0 (∀ (W : World) (A : Option Addr) (c : Nat), Kd.C k24 W A L6.length L6 → L6.length ≤ c → Calls Try.prog 28 #[.int .i64 3, .slice A L6.length c] W fun e w' => ∃ v, e = .returned (.tuple #[v, .bool true, .int .i64 0]) ∧ Kd.R (Kd.int .i64) 3 w' W.heap.size (fun _ => True) v core ∧ Below W.heap.size W w') := ⟨fun W A c h hc => by
  have e : prove_Core.g 3 L6 = (core, true, 0) := by unfold prove_Core.g; rw [hL6, three6_check, if_pos rfl, three6_no, if_neg (by simp), three6_core, hcore]
  have hh := Core_calls 3 A c L6 W h hc
  rw [e] at hh
  exact hh⟩
 have HQ : Aside0 (∀ (W : World) (A : Option Addr) (c : Nat), Kd.C k24 W A O.length O → O.length ≤ c → Calls Try.prog 24 #[.int .i64 2, .slice A O.length c] W fun e w' => e = .returned (.tuple #[.bool false, .int .i64 0]) ∧ Below W.heap.size W w') := ⟨fun W A c h hc => by
  exact prove_Possible.calls 2 A c O false 0 W h hc (by unfold prove_Possible.f; rw [hO, odd_check, if_pos rfl, odd_no])⟩
 have HRF : Aside0 (∀ (W : World) (A : Option Addr) (c : Nat), Kd.C k24 W A O.length O → O.length ≤ c → Calls Try.prog 38 #[.int .i64 2, .slice A O.length c] W fun e w' => ∃ v out, e = .returned (.tuple #[v, .bool true, .int .i64 0]) ∧ Kd.R k166 166 w' W.heap.size (fun _ => True) v out ∧ Below W.heap.size W w' ∧ cosignerref12_CheckRefute.f 500 2 O out = some 0) := ⟨fun W A c h hc => by
  have hk : checkE (2 : Nat) O = 0 := by rw [hO]; exact odd_check
  exact (refute_no 2 A c O W h hc hk (by rw [hO]; exact odd_no)).mono fun e w' ⟨v, out, h1, h2, h3, t, h4, h5⟩ => ⟨v, out, h1, h2, h3, checkRefute_ok hk h4 h5 500 (by omega)⟩⟩
 have HTH : Aside0 (cosignerlaw12_Three.f = some L) := ⟨by rw [hL]; rfl⟩
 have HSI : Aside0 (cosignerref12_SameInts.f 5 core [0, 5] = some true) := ⟨by rw [hcore]; exact same_f _ (by decide) _ (by decide)⟩
 have HA3 : Aside0 (L ++ [(⟨0, 1, 1, 1, 3⟩ : S24)] = L3) := ⟨by rw [hL, hL3]; rfl⟩
 have HA6 : Aside0 (L ++ [(⟨0, -1, 1, -1, -6⟩ : S24)] = L6) := ⟨by rw [hL, hL6]; rfl⟩
 have HAO : Aside0 ([(⟨0, 1, 1, -1, 0⟩ : S24), ⟨1, 1, 0, -1, 0⟩, ⟨0, 1, 1, 1, 1⟩, ⟨0, -1, 1, -1, -1⟩] = O) := ⟨hO.symm⟩
 have hll : L.length ≤ 10 := by rw [hL]; decide
 clear hL hL3 hL6 hO hcore
 go_enter Try.func17, Try.ntmps17
 go_upto_region 10 with (first | (go_at_call 54; refine (cosignerlaw12_Three.calls L _ HTH.out).mono ?_; rintro e w1 ⟨v1, rfl, hR, hb⟩; obtain ⟨A1, c1, rfl, hc1, hC⟩ := Kd.R_reads hR; have HC := Aside0.mk hC; have HB := Aside0.mk hb; clear hR hC hb) | (go_at_call 24; first | ((with_reducible refine (HP.out _ _ _ HC.out hc1).mono ?_); rintro e wx24 ⟨rfl, hb⟩; have n0_ := Aside0.mk (below_step HB.out hb); clear HB; have HB := n0_; clear n0_; have n1_ := Aside0.mk (Kd.C_below HC.out hb); clear HC; have HC := n1_; clear n1_; clear hb)) | (go_at_call 20; first | ((with_reducible refine (HS0.out _ _ _ HC.out hc1).mono ?_); rintro e wx20 ⟨rfl, hb⟩; have n0_ := Aside0.mk (below_step HB.out hb); clear HB; have HB := n0_; clear n0_; have n1_ := Aside0.mk (Kd.C_below HC.out hb); clear HC; have HC := n1_; clear n1_; clear hb) | ((with_reducible refine (HS1.out _ _ _ HC.out hc1).mono ?_); rintro e wx20 ⟨rfl, hb⟩; have n0_ := Aside0.mk (below_step HB.out hb); clear HB; have HB := n0_; clear n0_; have n1_ := Aside0.mk (Kd.C_below HC.out hb); clear HC; have HC := n1_; clear n1_; clear hb) | ((with_reducible refine (HS2.out _ _ _ HC.out hc1).mono ?_); rintro e wx20 ⟨rfl, hb⟩; have n0_ := Aside0.mk (below_step HB.out hb); clear HB; have HB := n0_; clear n0_; have n1_ := Aside0.mk (Kd.C_below HC.out hb); clear HC; have HC := n1_; clear n1_; clear hb)) | (go_at_call 55; refine (line55 _ _ _ _ _ _).mono ?_; rintro e wl ⟨rfl, hb⟩; have n0_ := Aside0.mk (below_step HB.out hb); clear HB; have HB := n0_; clear n0_; have n1_ := Aside0.mk (Kd.C_below HC.out hb); clear HC; have HC := n1_; clear n1_; clear hb) | (go_at_call 18; first | ((with_reducible refine (HM1.out _ _ _ HC.out hc1).mono ?_); rintro e wx18 ⟨rfl, hb⟩; have n0_ := Aside0.mk (below_step HB.out hb); clear HB; have HB := n0_; clear n0_; have n1_ := Aside0.mk (Kd.C_below HC.out hb); clear HC; have HC := n1_; clear n1_; clear hb) | ((with_reducible refine (HM2.out _ _ _ HC.out hc1).mono ?_); rintro e wx18 ⟨rfl, hb⟩; have n0_ := Aside0.mk (below_step HB.out hb); clear HB; have HB := n0_; clear n0_; have n1_ := Aside0.mk (Kd.C_below HC.out hb); clear HC; have HC := n1_; clear n1_; clear hb)) | (go_at_call 25; first | ((with_reducible refine (HE1.out _ _ _ HC.out hc1).mono ?_); rintro e wx25 ⟨rfl, hb⟩; have n0_ := Aside0.mk (below_step HB.out hb); clear HB; have HB := n0_; clear n0_; have n1_ := Aside0.mk (Kd.C_below HC.out hb); clear HC; have HC := n1_; clear n1_; clear hb) | ((with_reducible refine (HE2.out _ _ _ HC.out hc1).mono ?_); rintro e wx25 ⟨rfl, hb⟩; have n0_ := Aside0.mk (below_step HB.out hb); clear HB; have HB := n0_; clear n0_; have n1_ := Aside0.mk (Kd.C_below HC.out hb); clear HC; have HC := n1_; clear n1_; clear hb)))
 go_upto_region 11 with (first | (go_at_call 54; refine (cosignerlaw12_Three.calls L _ HTH.out).mono ?_; rintro e wt ⟨vt, rfl, hR, hb⟩; have HRT := Aside0.mk (Kd.R_lower hR (below_size HB.out)); have n0_ := Aside0.mk (below_step HB.out hb); clear HB; have HB := n0_; clear n0_; clear hR hb) | (go_at_call 55; refine (line55 _ _ _ _ _ _).mono ?_; rintro e wl ⟨rfl, hb⟩; have n0_ := Aside0.mk (below_step HB.out hb); clear HB; have HB := n0_; clear n0_; have n1_ := Aside0.mk (Kd.R_below HRT.out hb); clear HRT; have HRT := n1_; clear n1_; clear hb) | ((with_reducible refine gate_builtin (b := .append) (xs := #[.tmp 83, .tmp 85]) rfl ?_); at_builtin; refine Kd.R_append k24 (w0 := w) w.heap.size rfl (.tmp 83) (.tmp 85) 22 24 (.agg #[(.int .i64 0), (.int .i64 0), (.int .i64 0), (.int .i64 0), (.int .i64 0)]) 40 rfl Try.underlying22 info24 rfl (by decide) (by omega) vt L (⟨0, 1, 1, 1, 3⟩ : S24) [.int .i64 0, .int .i64 1, .int .i64 1, .int .i64 1, .int .i64 3] (fun _ => True) (fun _ => False) rfl rfl ?aP (fun _ hk => hk.elim) ?aF ?aO ?aB ?aS ?aL ?_; (case aP => exact k24_mkM _ _ _ (⟨0, 1, 1, 1, 3⟩ : S24)); (case aB => exact HB.out); (case aF => exact (fun _ _ => trivial)); (case aO => exact HRT.out); (case aS => exact below_size HB.out); (case aL => omega); intro va wa ho hb hg hat; rw [HA3.out] at ho; obtain ⟨AX, cX, rfl, hcX, hC⟩ := Kd.R_reads ho; have HX := Aside0.mk hC; clear HB; have HB := Aside0.mk hb; skip; clear ho hb hg hat hC) | (go_at_call 20; first | ((with_reducible refine (HU0.out _ _ _ HX.out hcX).mono ?_); rintro e wx20 ⟨rfl, hb⟩; have n0_ := Aside0.mk (below_step HB.out hb); clear HB; have HB := n0_; clear n0_; clear hb)))
 clear HX hcX HRT
 go_upto_region 12 with (first | (go_at_call 54; refine (cosignerlaw12_Three.calls L _ HTH.out).mono ?_; rintro e wt ⟨vt, rfl, hR, hb⟩; have HRT := Aside0.mk (Kd.R_lower hR (below_size HB.out)); have n0_ := Aside0.mk (below_step HB.out hb); clear HB; have HB := n0_; clear n0_; clear hR hb) | (go_at_call 55; refine (line55 _ _ _ _ _ _).mono ?_; rintro e wl ⟨rfl, hb⟩; have n0_ := Aside0.mk (below_step HB.out hb); clear HB; have HB := n0_; clear n0_; have n1_ := Aside0.mk (Kd.R_below HRT.out hb); clear HRT; have HRT := n1_; clear n1_; clear hb) | ((with_reducible refine gate_builtin (b := .append) (xs := #[.tmp 92, .tmp 94]) rfl ?_); at_builtin; refine Kd.R_append k24 (w0 := w) w.heap.size rfl (.tmp 92) (.tmp 94) 22 24 (.agg #[(.int .i64 0), (.int .i64 0), (.int .i64 0), (.int .i64 0), (.int .i64 0)]) 40 rfl Try.underlying22 info24 rfl (by decide) (by omega) vt L (⟨0, -1, 1, -1, -6⟩ : S24) [.int .i64 0, .int .i64 (-1), .int .i64 1, .int .i64 (-1), .int .i64 (-6)] (fun _ => True) (fun _ => False) rfl rfl ?aP (fun _ hk => hk.elim) ?aF ?aO ?aB ?aS ?aL ?_; (case aP => exact k24_mkM _ _ _ (⟨0, -1, 1, -1, -6⟩ : S24)); (case aB => exact HB.out); (case aF => exact (fun _ _ => trivial)); (case aO => exact HRT.out); (case aS => exact below_size HB.out); (case aL => omega); intro va wa ho hb hg hat; rw [HA6.out] at ho; obtain ⟨AX, cX, rfl, hcX, hC⟩ := Kd.R_reads ho; have HX := Aside0.mk hC; clear HB; have HB := Aside0.mk hb; skip; clear ho hb hg hat hC) | (go_at_call 28; refine (HK.out _ _ _ HX.out hcX).mono ?_; rintro e wk ⟨vk, rfl, hR, hb⟩; obtain ⟨AK, cK, rfl, hcK, hC⟩ := Kd.R_reads hR; have HCK := Aside0.mk hC; have n0_ := Aside0.mk (below_step HB.out hb); clear HB; have HB := n0_; clear n0_; clear hR hb hC))
 clear HX hcX HRT
 go_upto_region 15 with (first | (go_at_call 55; refine (line55 _ _ _ _ _ _).mono ?_; rintro e wl ⟨rfl, hb⟩; have n0_ := Aside0.mk (below_step HB.out hb); clear HB; have HB := n0_; clear n0_; have n1_ := Aside0.mk (Kd.C_below HCK.out hb); clear HCK; have HCK := n1_; clear n1_; clear hb) | ((with_reducible refine gate_dst (N := 142) rfl ?_); refine Kd.R_lit k24 (w0 := w) w.heap.size 24 ?hg (N := 142) ?hd (xs := ([(⟨0, 1, 1, -1, 0⟩ : S24), (⟨1, 1, 0, -1, 0⟩ : S24), (⟨0, 1, 1, 1, 1⟩ : S24), (⟨0, -1, 1, -1, -1⟩ : S24)] : List S24)) (inner := [.int .i64 0, .int .i64 1, .int .i64 1, .int .i64 (-1), .int .i64 0, .int .i64 1, .int .i64 1, .int .i64 0, .int .i64 (-1), .int .i64 0, .int .i64 0, .int .i64 1, .int .i64 1, .int .i64 1, .int .i64 1, .int .i64 0, .int .i64 (-1), .int .i64 1, .int .i64 (-1), .int .i64 (-1)]) (ok := fun _ => True) (okp := fun _ => True) ?hr ?hp (fun _ hk => hk) trivial HB.out (below_size HB.out) (by simp) ?_; (case hd => rfl); (case hg => rfl); (case hr => first | (go_simp; done) | (go_simp; rfl)); (case hp => exact (Reps.c5 (show Kd.M k24 _ _ _ (⟨0, 1, 1, -1, 0⟩ : S24) [.int .i64 0, .int .i64 1, .int .i64 1, .int .i64 (-1), .int .i64 0] from (k24_mkM _ _ _ (⟨0, 1, 1, -1, 0⟩ : S24))) (Reps.c5 (show Kd.M k24 _ _ _ (⟨1, 1, 0, -1, 0⟩ : S24) [.int .i64 1, .int .i64 1, .int .i64 0, .int .i64 (-1), .int .i64 0] from (k24_mkM _ _ _ (⟨1, 1, 0, -1, 0⟩ : S24))) (Reps.c5 (show Kd.M k24 _ _ _ (⟨0, 1, 1, 1, 1⟩ : S24) [.int .i64 0, .int .i64 1, .int .i64 1, .int .i64 1, .int .i64 1] from (k24_mkM _ _ _ (⟨0, 1, 1, 1, 1⟩ : S24))) (Reps.c5 (show Kd.M k24 _ _ _ (⟨0, -1, 1, -1, -1⟩ : S24) [.int .i64 0, .int .i64 (-1), .int .i64 1, .int .i64 (-1), .int .i64 (-1)] from (k24_mkM _ _ _ (⟨0, -1, 1, -1, -1⟩ : S24))) (Reps.none _ _)))))); intro vo wo ho hb hg hat; rw [HAO.out] at ho; obtain ⟨AO, cO, rfl, hcO, hC⟩ := Kd.R_reads ho; have HO := Aside0.mk hC; have hbx : Below _ _ _ := Below.grown (Below.refl _ _) hg (Nat.le_refl _) (fun k hk => by simp at hk); have n1_ := Aside0.mk (Kd.C_below HCK.out hbx); clear HCK; have HCK := n1_; clear n1_; clear HB; have HB := Aside0.mk hb; clear ho hb hg hat hC hbx))
 go_upto_region 17 with (first | (go_at_call 24; first | ((with_reducible refine (HQ.out _ _ _ HO.out hcO).mono ?_); rintro e wx24 ⟨rfl, hb⟩; have n0_ := Aside0.mk (below_step HB.out hb); clear HB; have HB := n0_; clear n0_; have n1_ := Aside0.mk (Kd.C_below HCK.out hb); clear HCK; have HCK := n1_; clear n1_; have n1_ := Aside0.mk (Kd.C_below HO.out hb); clear HO; have HO := n1_; clear n1_; clear hb)) | (go_at_call 38; refine (HRF.out _ _ _ HO.out hcO).mono ?_; rintro e wr ⟨vr, pf, rfl, hR, hb, hcr⟩; obtain ⟨AP, cP, rfl, hcP, hC⟩ := Kd.R_reads hR; have HPF := Aside0.mk hC; have HCR := Aside0.mk hcr; have n0_ := Aside0.mk (below_step HB.out hb); clear HB; have HB := n0_; clear n0_; have n1_ := Aside0.mk (Kd.C_below HCK.out hb); clear HCK; have HCK := n1_; clear n1_; have n1_ := Aside0.mk (Kd.C_below HO.out hb); clear HO; have HO := n1_; clear n1_; clear hR hb hC hcr))
 go_upto_region 18 with (fail)
 go_wp2_with (first | (go_at_call 48; refine (cosignerref12_SameInts.calls 5 _ _ core _ _ [0, 5] true _ (Kd.C_alloc HCK.out _) hcK (two_alloc _ 0 5) (by simp) HSI.out).mono ?_; rintro e ws ⟨rfl, hd⟩; have hb := below_step ((Below.refl _ _).alloc (Nat.le_refl _) (.cells #[.int .i64 0, .int .i64 5] 3)) hd.below; have n0_ := Aside0.mk (below_step HB.out hb); clear HB; have HB := n0_; clear n0_; have n1_ := Aside0.mk (Kd.C_below HO.out hb); clear HO; have HO := n1_; clear n1_; have n1_ := Aside0.mk (Kd.C_below HPF.out hb); clear HPF; have HPF := n1_; clear n1_; clear hb hd) | (go_at_call 39; refine (cosignerref12_CheckRefute.calls 500 2 _ _ O _ _ pf 0 _ HO.out hcO HPF.out hcP HCR.out).mono ?_; rintro e wz ⟨rfl, hb⟩; have n0_ := Aside0.mk (below_step HB.out hb); clear HB; have HB := n0_; clear n0_; clear hb))
 go_ret
 exact ⟨rfl, HB.out⟩
end Go.Proofs.Ytmoiickbgokloaa.PA
