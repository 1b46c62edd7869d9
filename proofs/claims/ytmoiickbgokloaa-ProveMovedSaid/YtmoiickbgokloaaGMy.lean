/- The law ProveMoved: the walk of its second half. -/
import Derived.Test.YtmoiickbgokloaaGMw
namespace Go.Proofs.Ytmoiickbgokloaa.PA
open Go.RowKit Go.Proofs.YtmoiickbgokloaaW.PrintWords Go.Proofs.YtmoiickbgokloaaW.PrintLast Go.Proofs.YtmoiickbgokloaaW.PrintMore Go.Proofs.Ytmoiickbgokloaa.Utv
set_option linter.unusedVariables false
set_option linter.unusedSimpArgs false
/-- A line's list made by a call, as the walk keeps it. -/
def Lr (w0 W : World) (A : Option Addr) (c : Nat) (s : List S24) : Prop := Kd.R k24 24 W w0.heap.size (fun _ => True) (.slice A s.length c) s
/-- The numbers made by the law, as the walk keeps them. -/
def Yr (w0 W : World) (A : Option Addr) (c n : Nat) (y : List Int) : Prop := Kd.R (Kd.int .i64) 3 W w0.heap.size (fun _ => True) (.slice A n c) y ∧ y.length = n
theorem Lr.below {w0 W W' : World} {A : Option Addr} {c : Nat} {s : List S24} (h : Lr w0 W A c s) (hb : Below W.heap.size W W') : Lr w0 W' A c s := Kd.R_below h hb
theorem Yr.below {w0 W W' : World} {A : Option Addr} {c n : Nat} {y : List Int} (h : Yr w0 W A c n y) (hb : Below W.heap.size W W') : Yr w0 W' A c n y := ⟨Kd.R_below h.1 hb, h.2⟩
theorem Lr.C {w0 W : World} {A : Option Addr} {c : Nat} {s : List S24} (h : Lr w0 W A c s) : Kd.C k24 W A s.length s ∧ s.length ≤ c := ⟨(Kd.R_reads' h).2.2, (Kd.R_reads' h).2.1⟩
theorem Yr.C {w0 W : World} {A : Option Addr} {c n : Nat} {y : List Int} (h : Yr w0 W A c n y) : Kd.C (Kd.int .i64) W A y.length y ∧ y.length ≤ c := ⟨(Kd.R_reads' h.1).2.2, by have := (Kd.R_reads' h.1).2.1; have := h.2; omega⟩
theorem Yr.put {w0 W : World} {g c n : Nat} {y : List Int} (h : Yr w0 W (some ⟨g, 0, none⟩) c n y) (k : Nat) (v : Int) : Yr w0 (W.setCell ⟨g, k, none⟩ (.int .i64 v)) (some ⟨g, 0, none⟩) c n (y.set k v) := by
 have h1 := (Kd.R_putg (enc := Value.int .i64) (h1 := fun _ => rfl) h.1 (k : Nat) v).1
 rw [Int.toNat_natCast] at h1
 exact ⟨h1, by rw [List.length_set]; exact h.2⟩
theorem Yr.cell {w0 W : World} {g c n : Nat} {y : List Int} (h : Yr w0 W (some ⟨g, 0, none⟩) c n y) {k : Nat} (hk : k < n) : W.cell? ⟨g, k, none⟩ = some (.int .i64 (rd y (k : Nat))) ∧ W.frozen? ⟨g, k, none⟩ = false := by
 have := Kd.R_celln (enc := Value.int .i64) (h1 := fun _ => rfl) 0 h.1 (k : Nat) (by omega) (by omega)
 rw [Int.toNat_natCast] at this
 exact this
theorem Lr.put {w0 W : World} {A : Option Addr} {g c n cA : Nat} {s : List S24} {y : List Int} (h : Lr w0 W A cA s) (hy : Yr w0 W (some ⟨g, 0, none⟩) c n y) (k : Nat) (v : Value) : Lr w0 (W.setCell ⟨g, k, none⟩ v) A cA s := by
 obtain ⟨C, hC⟩ := Kd.R_typed hy.1 g rfl
 exact Kd.R_mono (Kd.R_far (p := ⟨g, k, none⟩) (Kd.R_types h hC (by decide)) (fun _ hk => hk.2) v) (fun _ h => h.1)
theorem Yr.base {w0 W : World} {g c n : Nat} {y : List Int} (h : Yr w0 W (some ⟨g, 0, none⟩) c n y) : w0.heap.size ≤ g := Kd.R_base h.1 g rfl
def tlc : Nat → Code → Code
 | 0, c => c
 | n + 1, .seq _ y => tlc n y
 | _ + 1, c => c
noncomputable def body12 : Code := match Try.f12.body with | some c => c | none => .skip
theorem wp_of_eqc {P : Program} {c c' : Code} {Q : Exit → Act → World → Prop} {a : Act} {w : World} (h : c = c') (hw : c'.wp P Q a w) : c.wp P Q a w := by rw [h]; exact hw
set_option maxRecDepth 100000 in
set_option maxHeartbeats 8000000 in
theorem moved_tail (n : Nat) (A : Option Addr) (c : Nat) (l : List S24) (b : Int) (A4 : Option Addr) (c4 : Nat) (x : List Int) (w wr : World) (k : Nat) (As : Option Addr) (cs : Nat) (s : List S24) (es lo hi he : Int) (Ay : Option Addr) (cy : Nat) (hk : checkE n l = 0) (hc : l.length ≤ c) (hb : -32768 ≤ b ∧ b ≤ 32767) (hc4 : x.length ≤ c4) (hx20 : x.length ≤ 20) (hkn : k < n) (hn12 : n ≤ 12) (hr : Kd.C k24 w A l.length l) (hx : Kd.C (Kd.int .i64) w A4 x.length x) (hcase : es = 1 ∨ es = 0 ∧ s = l.map (shiftS k b) ∧ checkE n (l.map (shiftS k b)) = 0) (hg : prove_Span.g n l k = (lo, hi, he)) (y : List Int) (hy : ∀ v, y.set k v = x.set k v) (HYR : Yr w wr Ay cy x.length y) (HSR : Lr w wr As cs s) (HBR : Below w.heap.size w wr) (u2 u5 u6 u7 u8 u9 u10 u14 u15 u16 u17 u21 u22 u23 u25 u26 u27 u28 u29 u30 u31 u32 u33 u34 u35 u36 u37 u38 u39 u40 u41 u42 u43 u44 u45 u46 u47 u48 u49 u50 u51 u52 u53 u54 u55 u56 u57 u58 u59 u60 u61 u62 u63 u64 u65 u66 u67 u68 u69 u70 u71 u72 u73 u74 u75 u76 u77 u78 u79 u80 u81 u82 u83 u84 u85 u86 u87 u88 u89 u90 u91 u92 u93 u94 u95 u96 u97 u98 u99 u100 u101 u102 u103 u104 u105 u106 u107 u108 u109 u110 u111 u112 u113 u114 u115 u116 u117 u118 u119 u120 u121 u122 u123 u124 u125 u126 u127 u128 u129 u130 u131 u132 u133 u134 u135 u136 u137 u138 u139 u140 u141 u142 u143 u144 u145 u146 u147 u148 u149 u150 u151 u152 u153 u154 u155 u156 u157 u158 u159 u160 u161 u162 u163 u164 u165 u166 u167 u168 u169 u170 u171 u172 u173 u174 u175 u176 u177 u178 u179 u180 u181 u182 u183 u184 u185 u186 u187 u188 u189 u190 u191 u192 u193 u194 u195 u196 u197 u198 u199 u200 u201 u202 u203 u204 u205 u206 u207 u208 u209 u210 u211 u212 u213 u214 u215 u216 u217 u218 u219 u220 u221 u222 u223 u224 u225 u226 u227 u228 u229 u230 u231 : Value) :
 Code.wp Try.prog (tlc 12 body12) (bodyPost Try.prog Try.f12 fun e w' => e = .returned (.bool true) ∧ Below w.heap.size w w') { tmps := #[.int .i64 (n : Nat), .slice A l.length c, u2, .int .i16 b, .slice A4 x.length c4, u5, u6, u7, u8, u9, u10, .int .i64 (k : Nat), .slice As s.length cs, .int .i64 es, u14, u15, u16, u17, .int .i64 lo, .int .i64 hi, .int .i64 he, u21, u22, u23, .slice Ay x.length cy, u25, u26, u27, u28, u29, u30, u31, u32, u33, u34, u35, u36, u37, u38, u39, u40, u41, u42, u43, u44, u45, u46, u47, u48, u49, u50, u51, u52, u53, u54, u55, u56, u57, u58, u59, u60, u61, u62, u63, u64, u65, u66, u67, u68, u69, u70, u71, u72, u73, u74, u75, u76, u77, u78, u79, u80, u81, u82, u83, u84, u85, u86, u87, u88, u89, u90, u91, u92, u93, u94, u95, u96, u97, u98, u99, u100, u101, u102, u103, u104, u105, u106, u107, u108, u109, u110, u111, u112, u113, u114, u115, u116, u117, u118, u119, u120, u121, u122, u123, u124, u125, u126, u127, u128, u129, u130, u131, u132, u133, u134, u135, u136, u137, u138, u139, u140, u141, u142, u143, u144, u145, u146, u147, u148, u149, u150, u151, u152, u153, u154, u155, u156, u157, u158, u159, u160, u161, u162, u163, u164, u165, u166, u167, u168, u169, u170, u171, u172, u173, u174, u175, u176, u177, u178, u179, u180, u181, u182, u183, u184, u185, u186, u187, u188, u189, u190, u191, u192, u193, u194, u195, u196, u197, u198, u199, u200, u201, u202, u203, u204, u205, u206, u207, u208, u209, u210, u211, u212, u213, u214, u215, u216, u217, u218, u219, u220, u221, u222, u223, u224, u225, u226, u227, u228, u229, u230, u231], defers := [] } wr := by
 refine wp_of_eqc (c' := ?c) (by dsimp only [tlc, body12, Try.f12]; rfl) ?_
 obtain ⟨h1, h2, h3, h4⟩ := check_ok hk
 have hki : (k : Int) < (n : Int) := by omega
 have ms := mov_shift (n := n) (k := k) (b := b) (by omega)
 have HBC := Aside0.mk HBR
 have HYC := Aside0.mk HYR
 have HSC := Aside0.mk HSR
 have HY0 := Aside0.mk hy
 have HLC := Aside0.mk (Kd.C_below hr HBR)
 have HXC := Aside0.mk (Kd.C_below hx HBR)
 have F20m : Aside0 (∀ m, checkE n m = 0 → ∀ W A' c', Kd.C k24 W A' m.length m → m.length ≤ c' → Calls Try.prog 20 #[.int .i64 (n : Nat), .slice A' m.length c', .int .i64 (k : Nat)] W fun e w' => e = .returned (.tuple #[.int .i64 (prove_Span.g n m k).1, .int .i64 (prove_Span.g n m k).2.1, .int .i64 (prove_Span.g n m k).2.2]) ∧ Below W.heap.size W w') := ⟨fun m hm W A' c' h h' => Span_calls n A' c' m k W h h'⟩
 have SPB : Aside0 (he = 0 → -20000000000000 ≤ lo ∧ lo ≤ 20000000000000 ∧ -20000000000000 ≤ hi ∧ hi ≤ 20000000000000) := ⟨fun h => by have := span_bounds hk (show 0 ≤ (k : Int) by omega) hki (by rw [hg]; exact h); rw [hg] at this; exact this⟩
 have SPS : Aside0 (checkE n (l.map (shiftS k b)) = 0 → (prove_Span.g n (l.map (shiftS k b)) k).2.2 = he ∧ (he = 0 → (prove_Span.g n (l.map (shiftS k b)) k).1 = lo + b ∧ (prove_Span.g n (l.map (shiftS k b)) k).2.1 = hi + b)) := ⟨fun h => by have := span_shift hk h (show 0 ≤ (k : Int) by omega) hki; rw [hg] at this; exact this⟩
 have F50s : Aside0 (checkE n (l.map (shiftS k b)) = 0 → ∀ W A' c', Kd.C k24 W A' (l.map (shiftS k b)).length (l.map (shiftS k b)) → (l.map (shiftS k b)).length ≤ c' → Kd.C k24 W A l.length l → Calls Try.prog 50 #[.int .i64 (n : Nat), .slice A l.length c, .slice A' (l.map (shiftS k b)).length c'] W fun e w' => e = .returned (.bool true) ∧ Below W.heap.size W w') := ⟨fun hcs W A' c' h h' g => cosignerlaw12_alike.calls 100 n A c l A' c' _ true W g hc h h' (alike_ok hk hcs (ms.satB h4.w) (ms.needed h4.w) (ms.core h4.w) 100 (by omega))⟩
 have F40 : Aside0 (∀ m W A' c' A'' c'' (y : List Int), Kd.C k24 W A' m.length m → m.length ≤ c' → Kd.C (Kd.int .i64) W A'' y.length y → y.length ≤ c'' → Calls Try.prog 40 #[.int .i64 (n : Nat), .slice A' m.length c', .slice A'' y.length c''] W fun e w' => e = .returned (.bool (fitsV n m y)) ∧ Below W.heap.size W w') := ⟨fun m W A' c' A'' c'' y h1 h2 h3 h4 => cosignerlaw12_fits.calls n A' c' m A'' c'' y _ W h1 h2 h3 h4 (fits_f n m y)⟩
 have FTS : Aside0 (checkE n (l.map (shiftS k b)) = 0 → ∀ y, fitsV n l y = true → rd y (k : Nat) < 549755813888 ∧ -549755813888 < rd y (k : Nat) → fitsV n (l.map (shiftS k b)) (y.set k (rd y (k : Nat) + b)) = true) := ⟨fun hcs y h h' => fits_shifted hcs hki h4.w h hb h'⟩
 obtain ⟨q0, hq0⟩ : ∃ q0, fitsV n l x = q0 := ⟨_, rfl⟩
 have HQ0 := Aside0.mk hq0
 have F40x : Aside0 (∀ W, Kd.C k24 W A l.length l → Kd.C (Kd.int .i64) W A4 x.length x → Calls Try.prog 40 #[.int .i64 (n : Nat), .slice A l.length c, .slice A4 x.length c4] W fun e w' => e = .returned (.bool q0) ∧ Below W.heap.size W w') := ⟨fun W h h' => by rw [← hq0]; exact F40.out l W A c A4 c4 x h hc h' hc4⟩
 have HQN : Aside0 (q0 = true → x.length = n) := ⟨fun h => by have := (fits_T (hq0.trans h)).1; omega⟩
 have z1 : (he != he) = false := by simp
 clear hq0 HBR HYR HSR hy hr hx hg hk h4 ms
 rcases hcase with rfl | ⟨rfl, hsl, hcs⟩
 · go_wp2_with (go_at_call 17; refine (sanity_calls _).mono ?_; rintro e w13 ⟨rfl, hb⟩; have HB13 := Aside0.mk (below_step HBC.out hb); clear hb)
   go_ret
   exact ⟨rfl, HB13.out⟩
 have SP1 := SPS.out hcs
 have F50 := F50s.out hcs
 have FS1 := FTS.out hcs
 have F20s := F20m.out _ hcs
 rw [← hsl] at SP1 F50 FS1 F20s
 obtain ⟨sa, sb, hsa, F20q⟩ : ∃ sa sb, Aside0 (he = 0 → sa = lo + b ∧ sb = hi + b) ∧ Aside0 (∀ W A' c', Kd.C k24 W A' s.length s → s.length ≤ c' → Calls Try.prog 20 #[.int .i64 (n : Nat), .slice A' s.length c', .int .i64 (k : Nat)] W fun e w' => e = .returned (.tuple #[.int .i64 sa, .int .i64 sb, .int .i64 he]) ∧ Below W.heap.size W w') :=
  ⟨_, _, ⟨SP1.2⟩, ⟨fun W A' c' h h' => by have hh := F20s W A' c' h h'; rw [SP1.1] at hh; exact hh⟩⟩
 have F50' := Aside0.mk F50
 have FS' := Aside0.mk FS1
 clear SP1 F50 FS1 F20s hsl hcs SPS F50s FTS F20m
 go_upto_region 21 with (go_at_call 20; (with_reducible refine (F20q.out _ _ _ HSC.out.C.1 HSC.out.C.2).mono ?_); rintro e w13 ⟨rfl, hb⟩; have HY13 := Aside0.mk (HYC.out.below hb); have HS13 := Aside0.mk (HSC.out.below hb); have HB13 := Aside0.mk (below_step HBC.out hb); have HL13 := Aside0.mk (Kd.C_below HLC.out hb); have HX13 := Aside0.mk (Kd.C_below HXC.out hb); clear hb)
 clear HYC HSC HBC HLC HXC F20q
 go_cut [189] (fun v189 wc => v189 = .bool false ∧ Aside0 (Below w13.heap.size w13 wc))
 case first =>
  by_cases h0 : he = 0
  · subst h0
    obtain ⟨rfl, rfl⟩ := hsa.out rfl
    have hbd := SPB.out rfl
    have q1 : ((lo + b) != (lo + b)) = false := by simp
    have q2 : ((hi + b) != (hi + b)) = false := by simp
    go_wp2_with (go_at_call 50; refine (F50'.out _ _ _ HS13.out.C.1 HS13.out.C.2 HL13.out).mono ?_; rintro e w14 ⟨rfl, hb⟩; have HB14 := Aside0.mk hb; clear hb)
    go_meet
    exact ⟨rfl, HB14⟩
  · have q1 : (he == 0) = false := beq_eq_false_iff_ne.mpr h0
    clear h0
    go_wp2_with (go_at_call 50; refine (F50'.out _ _ _ HS13.out.C.1 HS13.out.C.2 HL13.out).mono ?_; rintro e w14 ⟨rfl, hb⟩; have HB14 := Aside0.mk hb; clear hb)
    go_meet
    exact ⟨rfl, HB14⟩
 case rest =>
 obtain ⟨rfl, HBD⟩ := hcut
 have HY14 := Aside0.mk (HY13.out.below HBD.out)
 have HS14 := Aside0.mk (HS13.out.below HBD.out)
 have HB14 := Aside0.mk (below_step HB13.out HBD.out)
 have HL14 := Aside0.mk (Kd.C_below HL13.out HBD.out)
 have HX14 := Aside0.mk (Kd.C_below HX13.out HBD.out)
 clear HBD HY13 HS13 HB13 HL13 HX13 hsa F50'
 obtain ⟨w14, rfl⟩ : ∃ w14 : World, w14 = wc := ⟨_, rfl⟩
 go_upto_region 23 with (fail)
 go_cut [213] (fun v213 wc => v213 = .bool (q0 && (decide (rd x (k : Nat) < 549755813888) && decide (rd x (k : Nat) > -549755813888))) ∧ Aside0 (Below w14.heap.size w14 wc))
 case first =>
  by_cases hl : x.length = n
  · have e1 : ((x.length : Int) == (n : Int)) = true := beq_iff_eq.mpr (by omega)
    have e2 : (x.length == n) = true := beq_iff_eq.mpr hl
    have hkl : (k : Int) < (x.length : Int) := by omega
    clear hl
    cases q0
    · go_wp2_with (go_at_call 40; refine (F40x.out _ HL14.out HX14.out).mono ?_; rintro e w15 ⟨rfl, hb'⟩; have HB15 := Aside0.mk hb'; clear hb')
      go_meet
      exact ⟨rfl, HB15⟩
    · obtain ⟨ad, ex, x1⟩ := Kd.at_int HX14.out (k : Nat) (by omega) hkl
      cases ex
      rw [Int.toNat_natCast] at x1
      have HX1 := Aside0.mk x1
      clear x1
      generalize rd x (k : Nat) = v at *
      by_cases h9 : v < 549755813888
      · have d9 : decide (v < 549755813888) = true := decide_eq_true h9
        clear h9
        obtain ⟨dd, hdd⟩ : ∃ dd, decide (v > -549755813888) = dd := ⟨_, rfl⟩
        go_wp2_with (go_at_call 40; refine (F40x.out _ HL14.out HX14.out).mono ?_; rintro e w15 ⟨rfl, hb'⟩; have HB15 := Aside0.mk hb'; have x1 := pw_cell_below hb' HX1.out; clear hb')
        go_meet
        exact ⟨by simp [d9, hdd], HB15⟩
      · have d9 : decide (v < 549755813888) = false := decide_eq_false h9
        clear h9
        go_wp2_with (go_at_call 40; refine (F40x.out _ HL14.out HX14.out).mono ?_; rintro e w15 ⟨rfl, hb'⟩; have HB15 := Aside0.mk hb'; have x1 := pw_cell_below hb' HX1.out; clear hb')
        go_meet
        exact ⟨by simp [d9], HB15⟩
  · have e1 : ((x.length : Int) == (n : Int)) = false := beq_eq_false_iff_ne.mpr (by omega)
    have e2 : (x.length == n) = false := beq_eq_false_iff_ne.mpr hl
    have e3 : q0 = false := by cases hq : q0 with
     | false => rfl
     | true => exact (hl (HQN.out hq)).elim
    clear hl
    subst e3
    go_wp2_with fail
    go_meet
    exact ⟨rfl, ⟨Below.refl _ _⟩⟩
 case rest =>
 obtain ⟨rfl, HBD⟩ := hcut
 have HY15 := Aside0.mk (HY14.out.below HBD.out)
 have HYC0 := HY15
 have HS15 := Aside0.mk (HS14.out.below HBD.out)
 have HB15 := Aside0.mk (below_step HB14.out HBD.out)
 have HX15 := Aside0.mk (Kd.C_below HX14.out HBD.out)
 clear HBD HY14 HS14 HB14 HL14 HX14 F40x
 obtain ⟨w15, rfl⟩ : ∃ w15 : World, w15 = wc := ⟨_, rfl⟩
 obtain ⟨q2, hq2⟩ : ∃ q2, (q0 && (decide (rd x (k : Nat) < 549755813888) && decide (rd x (k : Nat) > -549755813888))) = q2 := ⟨_, rfl⟩
 rw [hq2]
 cases q2
 · clear hq2
   go_wp2_with (go_at_call 17; refine (sanity_calls _).mono ?_; rintro e w16 ⟨rfl, hb'⟩; have HB16 := Aside0.mk (below_step HB15.out hb'); clear hb')
   go_ret
   exact ⟨rfl, HB16.out⟩
 · simp only [Bool.and_eq_true, decide_eq_true_eq] at hq2
   obtain ⟨rfl, h9, h10⟩ := hq2
   have hnn := HQN.out rfl
   have hkx : k < x.length := by omega
   clear hnn
   have hfs := FS'.out x HQ0.out ⟨h9, by omega⟩
   obtain ⟨gy, cap, ey, hbgy, _, _⟩ := Kd.R_form HYC0.out.1 (by have := HYC0.out.2; omega)
   injection ey with ey1 e2 e3
   clear e2 e3
   subst ey1
   have hkl : (k : Int) < (x.length : Int) := by omega
   obtain ⟨ad, ex, x1⟩ := Kd.at_int HX15.out (k : Nat) (by omega) hkl
   cases ex
   rw [Int.toNat_natCast] at x1
   obtain ⟨y0, y1⟩ := HY15.out.cell hkx
   obtain ⟨v, hv⟩ : ∃ v, v = rd x (k : Nat) := ⟨_, rfl⟩
   rw [← hv] at x1 h9 h10 hfs
   have FT : Aside0 (fitsV n s (x.set k (v + b)) = true) := ⟨hfs⟩
   generalize rd y (k : Nat) = vy at y0
   have hb12 : Below w.heap.size w (w15.setCell ⟨gy, k, none⟩ (.int .i64 (v + b))) := HB15.out.setCell hbgy _
   have HY16 := Aside0.mk (HY15.out.put k (v + b))
   have HS16 := Aside0.mk (HS15.out.put HY15.out k (.int .i64 (v + b)))
   have HB16 := Aside0.mk hb12
   clear hv hb12 hfs
   go_upto_region 25 with (fail)
   clear x1 y0 y1
   generalize (w15.setCell ⟨gy, k, none⟩ (.int .i64 (v + b))) = w16 at *
   have FC : Aside0 (∀ V, Below w16.heap.size w16 V → Calls Try.prog 40 #[.int .i64 (n : Nat), .slice As s.length cs, .slice (some ⟨gy, 0, none⟩) x.length cy] V fun e w' => e = .returned (.bool true) ∧ Below V.heap.size V w') := ⟨fun V hV => by
    have hS := HS16.out.below hV
    have hY := HY16.out.below hV
    have hh := F40.out s V As cs (some ⟨gy, 0, none⟩) cy (y.set k (v + b)) hS.C.1 hS.C.2 hY.C.1 hY.C.2
    rw [hY.2, HY0.out, FT.out] at hh
    exact hh⟩
   go_wp2_with (first | (go_at_call 17; refine (sanity_calls _).mono ?_; rintro e w17 ⟨rfl, hb'⟩; have HB17 := Aside0.mk (below_step HB16.out hb'); have HV17 := Aside0.mk hb'; clear hb') | (go_at_call 40; refine (FC.out _ HV17.out).mono ?_; rintro e w18 ⟨rfl, hb'⟩; have HB18 := Aside0.mk (below_step HB17.out hb'); clear hb'))
   go_ret
   exact ⟨rfl, HB18.out⟩
end Go.Proofs.Ytmoiickbgokloaa.PA
