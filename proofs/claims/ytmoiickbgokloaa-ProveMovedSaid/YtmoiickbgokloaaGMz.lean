/- The law ProveMoved: its walk. -/
import Derived.Test.YtmoiickbgokloaaGMy
namespace Go.Proofs.Ytmoiickbgokloaa.PA
open Go.RowKit Go.Proofs.YtmoiickbgokloaaW.PrintWords Go.Proofs.YtmoiickbgokloaaW.PrintLast Go.Proofs.YtmoiickbgokloaaW.PrintMore Go.Proofs.Ytmoiickbgokloaa.Utv
set_option linter.unusedVariables false
set_option linter.unusedSimpArgs false
set_option maxRecDepth 100000 in
set_option maxHeartbeats 8000000 in
theorem moved_main (n : Nat) (A : Option Addr) (c : Nat) (l : List S24) (wh b : Int) (A4 : Option Addr) (c4 : Nat) (x : List Int) (w : World) (hr : Kd.C k24 w A l.length l) (hc : l.length ≤ c) (hw : 0 ≤ wh ∧ wh ≤ 255) (hb : -32768 ≤ b ∧ b ≤ 32767) (hx : Kd.C (Kd.int .i64) w A4 x.length x) (hc4 : x.length ≤ c4) (hk : checkE n l = 0) (hx20 : x.length ≤ 20)
 (k : Nat) (hkm : wh % (n : Int) = k) (hkn : k < n) :
 Calls Try.prog 12 #[.int .i64 (n : Nat), .slice A l.length c, .int .u8 wh, .int .i16 b, .slice A4 x.length c4] w fun e w' => e = .returned (.bool true) ∧ Below w.heap.size w w' := by
 obtain ⟨h1, h2, h3, h4⟩ := check_ok hk
 have hki : (k : Int) < (n : Int) := by omega
 obtain ⟨ht1, ht2⟩ := turned_eq hk (show 0 ≤ (k : Int) by omega) hki
 have htt := turned_twice hk (show 0 ≤ (k : Int) by omega) hki
 have mt := mov_turn (n := n) (k := k) (by omega)
 have ms := mov_shift (n := n) (k := k) (b := b) (by omega)
 have F22 : Aside0 (∀ W, Kd.C k24 W A l.length l → Calls Try.prog 22 #[.int .i64 (n : Nat), .slice A l.length c] W fun e w' => e = .returned (.bool true) ∧ Below W.heap.size W w') := ⟨fun W h => by have := lright_calls n A c l W h hc; rw [hk] at this; exact this⟩
 obtain ⟨s, es, hse, hcase⟩ : ∃ s es, shiftedG n l k b = (s, es) ∧ (es = 1 ∨ es = 0 ∧ s = l.map (shiftS k b) ∧ checkE n (l.map (shiftS k b)) = 0) := by
  rcases shifted_eq (b := b) hk (show 0 ≤ (k : Int) by omega) hki with h | ⟨h, h'⟩
  · exact ⟨_, _, h, .inl rfl⟩
  · exact ⟨_, _, h, .inr ⟨rfl, rfl, h'⟩⟩
 have F44 : Aside0 (∀ W, Kd.C k24 W A l.length l → Calls Try.prog 44 #[.int .i64 (n : Nat), .slice A l.length c, .int .i64 (k : Nat), .int .i64 b] W fun e w' => ∃ v0_ : Value, e = .returned (.tuple #[v0_, .int .i64 es]) ∧ Kd.R k24 24 w' W.heap.size (fun _ => True) v0_ s ∧ Below W.heap.size W w') := ⟨fun W h => prove_Shifted.calls n A c l k b _ _ W h hc (by unfold prove_Shifted.f; rw [hse])⟩
 obtain ⟨lo, hi, he, hg⟩ : ∃ lo hi he, prove_Span.g n l k = (lo, hi, he) := ⟨_, _, _, rfl⟩
 have F20 : Aside0 (∀ W, Kd.C k24 W A l.length l → Calls Try.prog 20 #[.int .i64 (n : Nat), .slice A l.length c, .int .i64 (k : Nat)] W fun e w' => e = .returned (.tuple #[.int .i64 lo, .int .i64 hi, .int .i64 he]) ∧ Below W.heap.size W w') := ⟨fun W h => by have := Span_calls n A c l k W h hc; rw [hg] at this; exact this⟩
 have F20m : Aside0 (∀ m, checkE n m = 0 → ∀ W A' c', Kd.C k24 W A' m.length m → m.length ≤ c' → Calls Try.prog 20 #[.int .i64 (n : Nat), .slice A' m.length c', .int .i64 (k : Nat)] W fun e w' => e = .returned (.tuple #[.int .i64 (prove_Span.g n m k).1, .int .i64 (prove_Span.g n m k).2.1, .int .i64 (prove_Span.g n m k).2.2]) ∧ Below W.heap.size W w') := ⟨fun m hm W A' c' h h' => Span_calls n A' c' m k W h h'⟩
 have SPT : Aside0 ((prove_Span.g n (l.map (turnS k)) k).2.2 = he ∧ (he = 0 → (prove_Span.g n (l.map (turnS k)) k).1 = -hi ∧ (prove_Span.g n (l.map (turnS k)) k).2.1 = -lo)) := ⟨by have := span_turn hk ht2 (show 0 ≤ (k : Int) by omega) hki; rw [hg] at this; exact this⟩
 have SPB : Aside0 (he = 0 → -20000000000000 ≤ lo ∧ lo ≤ 20000000000000 ∧ -20000000000000 ≤ hi ∧ hi ≤ 20000000000000) := ⟨fun h => by have := span_bounds hk (show 0 ≤ (k : Int) by omega) hki (by rw [hg]; exact h); rw [hg] at this; exact this⟩
 have SPS : Aside0 (checkE n (l.map (shiftS k b)) = 0 → (prove_Span.g n (l.map (shiftS k b)) k).2.2 = he ∧ (he = 0 → (prove_Span.g n (l.map (shiftS k b)) k).1 = lo + b ∧ (prove_Span.g n (l.map (shiftS k b)) k).2.1 = hi + b)) := ⟨fun h => by have := span_shift hk h (show 0 ≤ (k : Int) by omega) hki; rw [hg] at this; exact this⟩
 have F50s : Aside0 (checkE n (l.map (shiftS k b)) = 0 → ∀ W A' c', Kd.C k24 W A' (l.map (shiftS k b)).length (l.map (shiftS k b)) → (l.map (shiftS k b)).length ≤ c' → Kd.C k24 W A l.length l → Calls Try.prog 50 #[.int .i64 (n : Nat), .slice A l.length c, .slice A' (l.map (shiftS k b)).length c'] W fun e w' => e = .returned (.bool true) ∧ Below W.heap.size W w') := ⟨fun hcs W A' c' h h' g => cosignerlaw12_alike.calls 100 n A c l A' c' _ true W g hc h h' (alike_ok hk hcs (ms.satB h4.w) (ms.needed h4.w) (ms.core h4.w) 100 (by omega))⟩
 have F40 : Aside0 (∀ m W A' c' A'' c'' (y : List Int), Kd.C k24 W A' m.length m → m.length ≤ c' → Kd.C (Kd.int .i64) W A'' y.length y → y.length ≤ c'' → Calls Try.prog 40 #[.int .i64 (n : Nat), .slice A' m.length c', .slice A'' y.length c''] W fun e w' => e = .returned (.bool (fitsV n m y)) ∧ Below W.heap.size W w') := ⟨fun m W A' c' A'' c'' y h1 h2 h3 h4 => cosignerlaw12_fits.calls n A' c' m A'' c'' y _ W h1 h2 h3 h4 (fits_f n m y)⟩
 have HG := Aside0.mk hg
 clear hse hg
 have F46 : Aside0 (∀ W, Kd.C k24 W A l.length l → Calls Try.prog 46 #[.int .i64 (n : Nat), .slice A l.length c, .int .i64 (k : Nat)] W fun e w' => ∃ v0_ : Value, e = .returned (.tuple #[v0_, .int .i64 0]) ∧ Kd.R k24 24 w' W.heap.size (fun _ => True) v0_ (l.map (turnS k)) ∧ Below W.heap.size W w') := ⟨fun W h => prove_Turned.calls n A c l k _ _ W h hc (by unfold prove_Turned.f; rw [ht1])⟩
 have F46t : Aside0 (∀ W A' c', Kd.C k24 W A' (l.map (turnS k)).length (l.map (turnS k)) → (l.map (turnS k)).length ≤ c' → Calls Try.prog 46 #[.int .i64 (n : Nat), .slice A' (l.map (turnS k)).length c', .int .i64 (k : Nat)] W fun e w' => ∃ v0_ : Value, e = .returned (.tuple #[v0_, .int .i64 0]) ∧ Kd.R k24 24 w' W.heap.size (fun _ => True) v0_ l ∧ Below W.heap.size W w') := ⟨fun W A' c' h h' => prove_Turned.calls n A' c' _ k _ _ W h h' (by unfold prove_Turned.f; rw [htt])⟩
 have F49 : Aside0 (∀ W A' c', Kd.C k24 W A' l.length l → l.length ≤ c' → Kd.C k24 W A l.length l → Calls Try.prog 49 #[.slice A' l.length c', .slice A l.length c] W fun e w' => e = .returned (.bool true) ∧ Below W.heap.size W w') := ⟨fun W A' c' h h' g => (cosignerref12_SameLines.calls 100 A' c' l A c l true W h h' g hc (sameL_f l (by omega) 100 (by omega))).mono fun e w' h => ⟨h.1, h.2.below⟩⟩
 have F50t : Aside0 (∀ W A' c', Kd.C k24 W A' (l.map (turnS k)).length (l.map (turnS k)) → (l.map (turnS k)).length ≤ c' → Kd.C k24 W A l.length l → Calls Try.prog 50 #[.int .i64 (n : Nat), .slice A l.length c, .slice A' (l.map (turnS k)).length c'] W fun e w' => e = .returned (.bool true) ∧ Below W.heap.size W w') := ⟨fun W A' c' h h' g => cosignerlaw12_alike.calls 100 n A c l A' c' _ true W g hc h h' (alike_ok hk ht2 (mt.satB h4.w) (mt.needed h4.w) (mt.core h4.w) 100 (by omega))⟩
 have FTT : Aside0 (∀ y, fitsV n l y = true → fitsV n (l.map (turnS k)) (y.set k (-(rd y (k : Nat)))) = true) := ⟨fun y h => fits_turned ht2 hki h4.w h⟩
 have FTS : Aside0 (checkE n (l.map (shiftS k b)) = 0 → ∀ y, fitsV n l y = true → rd y (k : Nat) < 549755813888 ∧ -549755813888 < rd y (k : Nat) → fitsV n (l.map (shiftS k b)) (y.set k (rd y (k : Nat) + b)) = true) := ⟨fun hcs y h h' => fits_shifted hcs hki h4.w h hb h'⟩
 clear ht1 htt mt ms
 generalize l.map (turnS k) = tl at *
 have hmod : Int.tmod wh (n : Int) = (k : Nat) := by rw [Int.tmod_eq_emod_of_nonneg hw.1]; exact hkm
 have HB := Aside0.mk (Below.refl w.heap.size w)
 have HL := Aside0.mk hr
 have HX := Aside0.mk hx
 have HK := Aside0.mk hk
 have HT2 := Aside0.mk ht2
 have HR4 := Aside0.mk h4
 have hlen : ((x.length : Int) > 20) = False := by simp; omega
 have hlend : decide ((x.length : Int) > 20) = false := decide_eq_false (by omega)
 clear hlen hr hx hk ht2 h4
 go_enter Try.func12, Try.ntmps12
 go_upto_region 4 with (go_at_call 22; refine (F22.out _ HL.out).mono ?_; rintro e w1 ⟨rfl, hb⟩; have HB1 := Aside0.mk (below_step HB.out hb); have HL1 := Aside0.mk (Kd.C_below HL.out hb); clear hb)
 go_upto_region 9 with (first | (go_at_call 44; refine (F44.out _ HL1.out).mono ?_; rintro e w2 ⟨v2, rfl, hR, hb⟩; obtain ⟨As, cs, rfl⟩ := Kd.R_slice hR; have HS2 : Aside0 (Lr w w2 As cs s) := ⟨Kd.R_lower hR (below_size HB1.out)⟩; have HB2 := Aside0.mk (below_step HB1.out hb); have HL2 := Aside0.mk (Kd.C_below HL1.out hb); clear hR hb HB1 HL1) | (go_at_call 46; (with_reducible refine (F46.out _ HL2.out).mono ?_); rintro e w3 ⟨v3, rfl, hR, hb⟩; obtain ⟨At, ct, rfl⟩ := Kd.R_slice hR; have HT3 : Aside0 (Lr w w3 At ct tl) := ⟨Kd.R_lower hR (below_size HB2.out)⟩; have HS3 := Aside0.mk (HS2.out.below hb); have HB3 := Aside0.mk (below_step HB2.out hb); have HL3 := Aside0.mk (Kd.C_below HL2.out hb); clear hR hb HB2 HL2 HS2) | (go_at_call 46; (with_reducible refine (F46t.out _ _ _ HT3.out.C.1 HT3.out.C.2).mono ?_); rintro e w4 ⟨v4, rfl, hR, hb⟩; obtain ⟨Au, cu, rfl⟩ := Kd.R_slice hR; have HU4 : Aside0 (Lr w w4 Au cu l) := ⟨Kd.R_lower hR (below_size HB3.out)⟩; have HT4 := Aside0.mk (HT3.out.below hb); have HS4 := Aside0.mk (HS3.out.below hb); have HB4 := Aside0.mk (below_step HB3.out hb); have HL4 := Aside0.mk (Kd.C_below HL3.out hb); clear hR hb HB3 HL3 HS3 HT3) | (go_at_call 49; refine (F49.out _ _ _ HU4.out.C.1 HU4.out.C.2 HL4.out).mono ?_; rintro e w5 ⟨rfl, hb⟩; have HT5 := Aside0.mk (HT4.out.below hb); have HS5 := Aside0.mk (HS4.out.below hb); have HB5 := Aside0.mk (below_step HB4.out hb); have HL5 := Aside0.mk (Kd.C_below HL4.out hb); clear hb HB4 HL4 HS4 HT4 HU4) | (go_at_call 50; refine (F50t.out _ _ _ HT5.out.C.1 HT5.out.C.2 HL5.out).mono ?_; rintro e w6 ⟨rfl, hb⟩; have HT6 := Aside0.mk (HT5.out.below hb); have HS6 := Aside0.mk (HS5.out.below hb); have HB6 := Aside0.mk (below_step HB5.out hb); have HL6 := Aside0.mk (Kd.C_below HL5.out hb); clear hb HB5 HL5 HS5 HT5))
 obtain ⟨ta, tb, hta, F20t⟩ : ∃ ta tb, Aside0 (he = 0 → ta = -hi ∧ tb = -lo) ∧ Aside0 (∀ W A' c', Kd.C k24 W A' tl.length tl → tl.length ≤ c' → Calls Try.prog 20 #[.int .i64 (n : Nat), .slice A' tl.length c', .int .i64 (k : Nat)] W fun e w' => e = .returned (.tuple #[.int .i64 ta, .int .i64 tb, .int .i64 he]) ∧ Below W.heap.size W w') :=
  ⟨_, _, ⟨SPT.out.2⟩, ⟨fun W A' c' h h' => by have hh := F20m.out tl HT2.out W A' c' h h'; rw [SPT.out.1] at hh; exact hh⟩⟩
 go_upto_region 11 with (first | (go_at_call 20; (with_reducible refine (F20.out _ HL6.out).mono ?_); rintro e w7 ⟨rfl, hb⟩; have HT7 := Aside0.mk (HT6.out.below hb); have HS7 := Aside0.mk (HS6.out.below hb); have HB7 := Aside0.mk (below_step HB6.out hb); have HL7 := Aside0.mk (Kd.C_below HL6.out hb); clear hb HB6 HL6 HS6 HT6) | (go_at_call 20; (with_reducible refine (F20t.out _ _ _ HT7.out.C.1 HT7.out.C.2).mono ?_); rintro e w8 ⟨rfl, hb⟩; have HT8 := Aside0.mk (HT7.out.below hb); have HS8 := Aside0.mk (HS7.out.below hb); have HB8 := Aside0.mk (below_step HB7.out hb); have HL8 := Aside0.mk (Kd.C_below HL7.out hb); clear hb HB7 HL7 HS7 HT7))
 have z1 : (he != he) = false := by simp
 go_cut [118] (fun v118 wc => v118 = .bool false ∧ Aside0 (w8 = wc))
 case first =>
  by_cases h0 : he = 0
  · subst h0
    obtain ⟨rfl, rfl⟩ := hta.out rfl
    have hbd := SPB.out rfl
    have q1 : ((-hi) != (-hi)) = false := by simp
    have q2 : ((-lo) != (-lo)) = false := by simp
    go_wp2_with fail
    go_meet
    exact ⟨rfl, ⟨rfl⟩⟩
  · have q1 : (he == 0) = false := beq_eq_false_iff_ne.mpr h0
    clear h0
    go_wp2_with fail
    go_meet
    exact ⟨rfl, ⟨rfl⟩⟩
 case rest =>
 obtain ⟨rfl, ⟨rfl⟩⟩ := hcut
 clear hta F20t
 have HX8 := Aside0.mk (Kd.C_below HX.out HB8.out)
 go_upto_region 14 with (first
  | ((with_reducible refine gate_dst (N := 119) rfl ?_); refine Kd.R_lit (Kd.int .i64) (w0 := w8) w8.heap.size 3 ?hg (N := 119) ?hd (xs := ([] : List Int)) (inner := []) (ok := fun _ => True) (okp := fun _ => True) ?hr ?hp (fun _ hk => hk) trivial (Below.refl _ _) (Nat.le_refl _) (by simp) ?_; (case hd => rfl); (case hg => rfl); (case hr => first | (go_simp; done) | (go_simp; rfl)); (case hp => exact (Reps.none _ _)); intro v119 w9 ho hb hg hat; have HO9 := Aside0.mk ho; have HB9 := Aside0.mk hb; clear ho hb hg hat)
  | ((with_reducible refine gate_builtin (b := .append) (xs := #[.tmp 119, .tmp 120]) rfl ?_); at_builtin; refine Kd.R_append_rows (Kd.int .i64) (w0 := w8) w8.heap.size rfl (.tmp 119) (.tmp 120) 46 3 (.int .i64 0) 8 rfl Try.underlying46 info3 rfl (by decide) (by omega) v119 ([] : List Int) x A4 x.length c4 (fun _ => True) (fun _ => False) rfl rfl HO9.out (Kd.C_below HX8.out HB9.out) (fun _ _ h => h) (fun _ h => h.elim) (fun _ _ => trivial) HB9.out (below_size HB9.out) (by simp; omega) ?_; intro v121 w10 ho hb hg hat; rw [List.nil_append] at ho; obtain ⟨Ay, cy, rfl⟩ := Kd.R_slice ho; have HY10 : Aside0 (Yr w w10 Ay cy x.length x) := ⟨Kd.R_lower ho (below_size HB8.out), rfl⟩; have HT10 := Aside0.mk (HT8.out.below hb); have HS10 := Aside0.mk (HS8.out.below hb); have HB10 := Aside0.mk (below_step HB8.out hb); have HL10 := Aside0.mk (Kd.C_below HL8.out hb); have HX10 := Aside0.mk (Kd.C_below HX8.out hb); clear ho hb hg hat HO9 HB9 HT8 HS8 HB8 HL8 HX8))
 obtain ⟨q0, hq0⟩ : ∃ q0, fitsV n l x = q0 := ⟨_, rfl⟩
 have HQ0 := Aside0.mk hq0
 have F40x : Aside0 (∀ W, Kd.C k24 W A l.length l → Kd.C (Kd.int .i64) W A4 x.length x → Calls Try.prog 40 #[.int .i64 (n : Nat), .slice A l.length c, .slice A4 x.length c4] W fun e w' => e = .returned (.bool q0) ∧ Below W.heap.size W w') := ⟨fun W h h' => by rw [← hq0]; exact F40.out l W A c A4 c4 x h hc h' hc4⟩
 have HQN : Aside0 (q0 = true → x.length = n) := ⟨fun h => by have := (fits_T (hq0.trans h)).1; omega⟩
 clear hq0
 go_cut [131] (fun v131 wc => v131 = .bool q0 ∧ Aside0 (Below w10.heap.size w10 wc))
 case first =>
  by_cases hl : x.length = n
  · have e1 : ((x.length : Int) == (n : Int)) = true := beq_iff_eq.mpr (by omega)
    have e2 : (x.length == n) = true := beq_iff_eq.mpr hl
    clear hl
    go_wp2_with (go_at_call 40; refine (F40x.out _ HL10.out HX10.out).mono ?_; rintro e w11 ⟨rfl, hb⟩; have HB11 := Aside0.mk hb; clear hb)
    go_meet
    exact ⟨rfl, HB11⟩
  · have e1 : ((x.length : Int) == (n : Int)) = false := beq_eq_false_iff_ne.mpr (by omega)
    have e2 : (x.length == n) = false := beq_eq_false_iff_ne.mpr hl
    have e3 : q0 = false := by cases hq : q0 with
     | false => rfl
     | true => exact (hl (HQN.out hq)).elim
    clear hl
    go_wp2_with fail
    go_meet
    exact ⟨by rw [e3], ⟨Below.refl _ _⟩⟩
 case rest =>
 obtain ⟨rfl, HBC⟩ := hcut
 have HY11 := Aside0.mk (HY10.out.below HBC.out)
 have HT11 := Aside0.mk (HT10.out.below HBC.out)
 have HS11 := Aside0.mk (HS10.out.below HBC.out)
 have HB11 := Aside0.mk (below_step HB10.out HBC.out)
 have HL11 := Aside0.mk (Kd.C_below HL10.out HBC.out)
 have HX11 := Aside0.mk (Kd.C_below HX10.out HBC.out)
 clear HBC HY10 HT10 HS10 HB10 HL10 HX10
 obtain ⟨w11, rfl⟩ : ∃ w11 : World, w11 = wc := ⟨_, rfl⟩
 go_upto_if 131 with (fail)
 go_cut [] (fun wc => ∃ y, Aside0 ((∀ v, y.set k v = x.set k v) ∧ Yr w wc Ay cy x.length y) ∧ Aside0 (Lr w wc As cs s) ∧ Aside0 (Below w.heap.size w wc))
 case first =>
  cases q0
  · go_wp2_with fail
    go_meet
    exact ⟨x, ⟨fun _ => rfl, HY11.out⟩, HS11, HB11⟩
  · have hn' := HQN.out rfl
    have hkx : k < x.length := by omega
    clear hn'
    obtain ⟨gy, cap, ey, hbgy, _, _⟩ := Kd.R_form HY11.out.1 (by omega)
    injection ey with ey1 e2 e3
    clear e2 e3
    subst ey1
    have hkl : (k : Int) < (x.length : Int) := by omega
    obtain ⟨ad, ex, x1⟩ := Kd.at_int HX11.out (k : Nat) (by omega) hkl
    cases ex
    rw [Int.toNat_natCast] at x1
    have hsm := (smallB_iff _).1 (small_of (fits_T HQ0.out).2.1 hkx)
    have FT : Aside0 (fitsV n tl (x.set k (-(rd x (k : Nat)))) = true) := ⟨FTT.out x HQ0.out⟩
    obtain ⟨y0, y1⟩ := HY11.out.cell hkx
    obtain ⟨v, hv⟩ : ∃ v, v = rd x (k : Nat) := ⟨_, rfl⟩
    rw [← hv] at x1 hsm FT y0
    have hb12 : Below w.heap.size w (w11.setCell ⟨gy, k, none⟩ (.int .i64 (-v))) := HB11.out.setCell hbgy _
    have HY12 := Aside0.mk (HY11.out.put k (-v))
    have HT12 := Aside0.mk (HT11.out.put HY11.out k (.int .i64 (-v)))
    have HS12 := Aside0.mk (HS11.out.put HY11.out k (.int .i64 (-v)))
    have HB12 := Aside0.mk hb12
    have FC : Aside0 (Calls Try.prog 40 #[.int .i64 (n : Nat), .slice At tl.length ct, .slice (some ⟨gy, 0, none⟩) x.length cy] (w11.setCell ⟨gy, k, none⟩ (.int .i64 (-v))) fun e w' => e = .returned (.bool true) ∧ Below (w11.setCell ⟨gy, k, none⟩ (.int .i64 (-v))).heap.size (w11.setCell ⟨gy, k, none⟩ (.int .i64 (-v))) w') := ⟨by
     have hh := F40.out tl _ At ct (some ⟨gy, 0, none⟩) cy (x.set k (-v)) HT12.out.C.1 HT12.out.C.2 HY12.out.C.1 HY12.out.C.2
     rw [FT.out, List.length_set] at hh
     exact hh⟩
    clear hv hb12
    go_upto_region 16 with (fail)
    clear x1 y0 y1
    generalize (w11.setCell ⟨gy, k, none⟩ (.int .i64 (-v))) = w12 at *
    go_wp2_with (go_at_call 40; refine FC.out.mono ?_; rintro e w13 ⟨rfl, hb⟩; have HY13 := Aside0.mk (HY12.out.below hb); have HS13 := Aside0.mk (HS12.out.below hb); have HB13 := Aside0.mk (below_step HB12.out hb); clear hb)
    go_meet
    exact ⟨x.set k (-v), ⟨fun u => List.set_set .., HY13.out⟩, HS13, HB13⟩
 case rest =>
 obtain ⟨y, HYC, HSC, HBC⟩ := hcut
 rename ∀ (a : Act) (w : World), Code.wp Try.prog (Code.seq (Code.seq (Code.region 18 _ _) _) _) _ a w → _ => hK6
 exact hK6 _ _ (moved_tail n A c l b A4 c4 x w wc k As cs s es lo hi he Ay cy HK.out hc hb hc4 hx20 hkn (by omega) HL.out HX.out hcase HG.out y HYC.out.1 HYC.out.2 HSC.out HBC.out _ _ _ _ _ _ _ _ _ _ _ _ _ _ _ _ _ _ _ _ _ _ _ _ _ _ _ _ _ _ _ _ _ _ _ _ _ _ _ _ _ _ _ _ _ _ _ _ _ _ _ _ _ _ _ _ _ _ _ _ _ _ _ _ _ _ _ _ _ _ _ _ _ _ _ _ _ _ _ _ _ _ _ _ _ _ _ _ _ _ _ _ _ _ _ _ _ _ _ _ _ _ _ _ _ _ _ _ _ _ _ _ _ _ _ _ _ _ _ _ _ _ _ _ _ _ _ _ _ _ _ _ _ _ _ _ _ _ _ _ _ _ _ _ _ _ _ _ _ _ _ _ _ _ _ _ _ _ _ _ _ _ _ _ _ _ _ _ _ _ _ _ _ _ _ _ _ _ _ _ _ _ _ _ _ _ _ _ _ _ _ _ _ _ _ _ _ _ _ _ _ _ _ _ _ _ _ _ _ _ _ _ _ _ _ _ _ _ _ _ _)
set_option maxRecDepth 100000 in
set_option maxHeartbeats 1000000 in
theorem moved_off (a0 : Int) (A : Option Addr) (c : Nat) (l : List S24) (wh b : Int) (A4 : Option Addr) (c4 : Nat) (x : List Int) (w : World) (hr : Kd.C k24 w A l.length l) (hc : l.length ≤ c) (q : Bool) (hq : (checkE a0 l == 0) = q) (hx : 20 < x.length) :
 Calls Try.prog 12 #[.int .i64 a0, .slice A l.length c, .int .u8 wh, .int .i16 b, .slice A4 x.length c4] w fun e w' => e = .returned (.bool true) ∧ Below w.heap.size w w' := by
 have F22 : Aside0 (∀ W, Kd.C k24 W A l.length l → Calls Try.prog 22 #[.int .i64 a0, .slice A l.length c] W fun e w' => e = .returned (.bool q) ∧ Below W.heap.size W w') := ⟨fun W h => by have := lright_calls a0 A c l W h hc; rw [hq] at this; exact this⟩
 have HL := Aside0.mk hr
 have hlend : decide ((x.length : Int) > 20) = true := decide_eq_true (by omega)
 clear hr hq
 cases q
 all_goals
  go_enter Try.func12, Try.ntmps12
  go_wp2_with (first | (go_at_call 22; refine (F22.out _ HL.out).mono ?_; rintro e w1 ⟨rfl, hb⟩; have HB1 := Aside0.mk hb; clear hb) | (go_at_call 17; refine (sanity_calls _).mono ?_; rintro e w2 ⟨rfl, hb⟩; have HB2 := Aside0.mk (below_step HB1.out hb); clear hb))
  go_ret
  exact ⟨rfl, HB2.out⟩
set_option maxRecDepth 100000 in
set_option maxHeartbeats 1000000 in
theorem moved_bad (a0 : Int) (A : Option Addr) (c : Nat) (l : List S24) (wh b : Int) (A4 : Option Addr) (c4 : Nat) (x : List Int) (w : World) (hr : Kd.C k24 w A l.length l) (hc : l.length ≤ c) (hq : checkE a0 l ≠ 0) :
 Calls Try.prog 12 #[.int .i64 a0, .slice A l.length c, .int .u8 wh, .int .i16 b, .slice A4 x.length c4] w fun e w' => e = .returned (.bool true) ∧ Below w.heap.size w w' := by
 have hq' : (checkE a0 l == 0) = false := beq_eq_false_iff_ne.mpr hq
 have F22 : Aside0 (∀ W, Kd.C k24 W A l.length l → Calls Try.prog 22 #[.int .i64 a0, .slice A l.length c] W fun e w' => e = .returned (.bool false) ∧ Below W.heap.size W w') := ⟨fun W h => by have := lright_calls a0 A c l W h hc; rw [hq'] at this; exact this⟩
 have HL := Aside0.mk hr
 clear hr hq hq'
 go_enter Try.func12, Try.ntmps12
 go_wp2_with (first | (go_at_call 22; refine (F22.out _ HL.out).mono ?_; rintro e w1 ⟨rfl, hb⟩; have HB1 := Aside0.mk hb; clear hb) | (go_at_call 17; refine (sanity_calls _).mono ?_; rintro e w2 ⟨rfl, hb⟩; have HB2 := Aside0.mk (below_step HB1.out hb); clear hb))
 go_ret
 exact ⟨rfl, HB2.out⟩
theorem moved_walk (a0 : Int) (A1 : Option Addr) (c1 : Nat) (l1 : List S24) (a2 a3 : Int) (A4 : Option Addr) (c4 : Nat) (l4 : List Int) (w : World) (hr1 : Kd.C k24 w A1 l1.length l1) (hc1 : l1.length ≤ c1) (h2 : (Lit.int .u8 a2).wf = true) (h3 : (Lit.int .i16 a3).wf = true) (hr4 : Kd.C (Kd.int .i64) w A4 l4.length l4) (hc4 : l4.length ≤ c4) :
 Calls Try.prog 12 #[.int .i64 a0, .slice A1 l1.length c1, .int .u8 a2, .int .i16 a3, .slice A4 l4.length c4] w fun e w' => e = .returned (.bool true) ∧ Below w.heap.size w w' := by
 by_cases hk : checkE a0 l1 = 0
 · obtain ⟨k1, k2, _, _⟩ := check_ok hk
   by_cases hx : l4.length ≤ 20
   · obtain ⟨n, rfl⟩ : ∃ n : Nat, a0 = n := ⟨a0.toNat, by omega⟩
     have hm0 := Int.emod_nonneg a2 (show (n : Int) ≠ 0 by omega)
     have hm1 := Int.emod_lt_of_pos a2 (show (0 : Int) < (n : Int) by omega)
     exact moved_main n A1 c1 l1 a2 a3 A4 c4 l4 w hr1 hc1 (u8_b2 h2) (i16_b h3) hr4 hc4 hk hx (a2 % (n : Int)).toNat (by omega) (by omega)
   · exact moved_off a0 A1 c1 l1 a2 a3 A4 c4 l4 w hr1 hc1 true (by rw [hk]; rfl) (by omega)
 · exact moved_bad a0 A1 c1 l1 a2 a3 A4 c4 l4 w hr1 hc1 hk
end Go.Proofs.Ytmoiickbgokloaa.PA
