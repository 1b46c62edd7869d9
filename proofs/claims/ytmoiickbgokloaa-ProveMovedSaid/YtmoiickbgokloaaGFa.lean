/- Contracts by hand: prove.Fits and what it calls. -/
import Derived.Test.YtmoiickbgokloaaGHi
namespace Go.Proofs.Ytmoiickbgokloaa.PA
open Go.RowKit Go.Proofs.YtmoiickbgokloaaW.PrintWords Go.Proofs.YtmoiickbgokloaaW.PrintLast Go.Proofs.YtmoiickbgokloaaW.PrintMore
set_option linter.unusedVariables false
set_option linter.unusedSimpArgs false
/-- A number is small. -/
def smallB (x : Int) : Bool := decide (-1099511627776 ≤ x) && decide (x ≤ 1099511627776)
theorem within_eq (a0 a1 a2 : Int) : prove_within.f a0 a1 a2 = some (decide (a1 ≤ a0) && decide (a0 ≤ a2)) := by
 unfold prove_within.f
 by_cases h : a1 ≤ a0
 · rw [if_pos h]; simp [h]
 · rw [if_neg h]; simp [h]
set_option maxRecDepth 100000 in
set_option maxHeartbeats 1000000 in
theorem bad70_calls (x : Int) (w : World) : Calls Try.prog 70 #[.int .i64 x] w fun e w' => e = .returned (.bool (!smallB x)) ∧ Below w.heap.size w w' := by
 go_enter Try.func70, Try.ntmps70
 go_wp2_with (go_at_call 71; refine (prove_within.calls x _ _ (smallB x) _ (within_eq _ _ _)).mono ?_; rintro e w1 ⟨rfl, hb1⟩)
 go_ret
 exact ⟨rfl, hb1.below⟩
/-- Some number is not small. -/
def anyOut (l : List Int) : Bool := l.any fun x => !smallB x
set_option maxRecDepth 100000 in
set_option maxHeartbeats 1000000 in
theorem index70_calls (A : Option Addr) (c : Nat) (l : List Int) (w : World) (hl : l.length ≤ 1000) (hr : Kd.C (Kd.int .i64) w A l.length l) (hc : l.length ≤ c) :
 Calls Try.prog 108 #[.slice A l.length c, .func (.func 70) #[] #[]] w fun e w' => (∃ i : Int, e = .returned (.int .i64 i) ∧ (0 ≤ i ↔ anyOut l = true)) ∧ Below w.heap.size w w' := by
 have HR := Aside0.mk hr
 clear hr
 go_enter Try.func108, Try.ntmps108
 go_wp2_with fail
 go_loopw [8] (fun v wr => ∃ x : Int, v = .int .i64 x ∧ 0 ≤ x ∧ x ≤ l.length ∧ Aside0 (∀ j : Nat, (j : Int) < x → smallB (rd l j) = true) ∧ Aside0 (Below w.heap.size w wr)) (fun v _ => l.length - (intOf v).toNat)
 case atStart => exact ⟨0, rfl, by omega, by omega, ⟨fun j hj => by omega⟩, ⟨Below.refl _ _⟩⟩
 case round =>
  obtain ⟨x, rfl, h0, h1, HA, HB⟩ := hrel
  by_cases hx : x < (l.length : Int)
  · obtain ⟨ad, e, hx0⟩ := Kd.at_int HR.out x h0 hx
    cases e
    replace hx0 := pw_cell_below HB.out hx0
    by_cases hb : smallB (rd l x) = true
    · go_wp2_with (go_at_call 70; refine (bad70_calls (rd l x) _).mono ?_; rintro e w1 ⟨rfl, hb1⟩; rw [hb])
      go_roundw
      case rel => exact ⟨x + 1, by go_num, by omega, by omega, ⟨fun j hj => by
       by_cases e : (j : Int) = x
       · rw [e]; exact hb
       · exact HA.out j (by omega)⟩, ⟨below_step HB.out hb1⟩⟩
      case measure => simp [intOf]; omega
    · replace hb := Bool.eq_false_iff.mpr hb
      go_wp2_with (go_at_call 70; refine (bad70_calls (rd l x) _).mono ?_; rintro e w1 ⟨rfl, hb1⟩; rw [hb])
      go_ret
      exact ⟨⟨x, rfl, fun _ => by
       unfold anyOut; rw [List.any_eq_true]
       refine ⟨rd l x, ?_, by rw [hb]; rfl⟩
       unfold rd; rw [List.getD_eq_getElem?_getD, List.getElem?_eq_getElem (by omega)]; exact List.getElem_mem _, fun _ => h0⟩, below_step HB.out hb1⟩
  · go_wp2
    go_ret
    refine ⟨⟨-1, rfl, fun h => by omega, fun hb => ?_⟩, HB.out⟩
    unfold anyOut at hb; rw [List.any_eq_true] at hb
    obtain ⟨y, hy, hyb⟩ := hb
    obtain ⟨j, hj, rfl⟩ := List.getElem_of_mem hy
    have := HA.out j (by omega)
    unfold rd at this
    rw [Int.toNat_natCast, List.getD_eq_getElem?_getD, List.getElem?_eq_getElem hj] at this
    simp at this hyb; rw [this] at hyb; cases hyb
set_option maxRecDepth 100000 in
set_option maxHeartbeats 1000000 in
theorem contains70_calls (A : Option Addr) (c : Nat) (l : List Int) (w : World) (hl : l.length ≤ 1000) (hr : Kd.C (Kd.int .i64) w A l.length l) (hc : l.length ≤ c) :
 Calls Try.prog 69 #[.slice A l.length c, .func (.func 70) #[] #[]] w fun e w' => e = .returned (.bool (anyOut l)) ∧ Below w.heap.size w w' := by
 go_enter Try.func69, Try.ntmps69
 go_wp2_with (go_at_call 108; refine (index70_calls A c l w hl hr hc).mono ?_; rintro e w1 ⟨⟨i, rfl, hi⟩, hb1⟩)
 go_ret
 refine ⟨?_, hb1⟩
 have : anyOut l = decide (0 ≤ i) := by cases hh : anyOut l <;> rw [hh] at hi <;> simp at hi <;> simp <;> omega
 rw [this]; rfl
/-- The numbers fit a line. -/
def fitB (x : List Int) (a : S24) : Bool := decide (a.f1 * rd x a.f0 + a.f3 * rd x a.f2 ≤ a.f4)
theorem iw {x : Int} (h : -4611686018427387904 ≤ x) (h' : x ≤ 4611686018427387904) : IntKind.i64.wrap x = x := by
 have e : IntKind.i64.wrap x = (x + 9223372036854775808) % 18446744073709551616 - 9223372036854775808 := by simp [IntKind.wrap, IntKind.bits, IntKind.signed]; try omega
 rw [e]; omega
theorem fit_wrap {x : List Int} {a : S24} (p : a.f1 = 1 ∨ a.f1 = -1) (q : a.f3 = 0 ∨ a.f3 = 1 ∨ a.f3 = -1) (xa0 : -1099511627776 ≤ rd x a.f0) (xa1 : rd x a.f0 ≤ 1099511627776) (xb0 : -1099511627776 ≤ rd x a.f2) (xb1 : rd x a.f2 ≤ 1099511627776) :
 decide (a.f4 < IntKind.i64.wrap (IntKind.i64.wrap (a.f1 * rd x a.f0) + IntKind.i64.wrap (a.f3 * rd x a.f2))) = !fitB x a := by
 have h1 : -1099511627776 ≤ a.f1 * rd x a.f0 ∧ a.f1 * rd x a.f0 ≤ 1099511627776 := by rcases p with e | e <;> rw [e] <;> omega
 have h2 : -1099511627776 ≤ a.f3 * rd x a.f2 ∧ a.f3 * rd x a.f2 ≤ 1099511627776 := by rcases q with e | e | e <;> rw [e] <;> omega
 have e1 : IntKind.i64.wrap (a.f1 * rd x a.f0) = a.f1 * rd x a.f0 := iw (by omega) (by omega)
 have e2 : IntKind.i64.wrap (a.f3 * rd x a.f2) = a.f3 * rd x a.f2 := iw (by omega) (by omega)
 have e3 : IntKind.i64.wrap (a.f1 * rd x a.f0 + a.f3 * rd x a.f2) = a.f1 * rd x a.f0 + a.f3 * rd x a.f2 := iw (by omega) (by omega)
 rw [e1, e2, e3]
 unfold fitB
 by_cases h : a.f1 * rd x a.f0 + a.f3 * rd x a.f2 ≤ a.f4
 · simp [h]
 · simp [h]; omega
/-- The first line from the i-th one on that the numbers do not fit. -/
def fitG (l : List S24) (x : List Int) : Nat → Nat → Int × Bool × Int
 | 0, _ => (0, true, 0)
 | d + 1, i => if fitB x (rd_T24 l (i : Nat)) = true then fitG l x d (i + 1) else ((i : Int), false, 0)
/-- What prove.Fits tells. -/
def fitsG (n : Int) (l : List S24) (x : List Int) : Int × Bool × Int :=
 if checkE n l = 0 then (if (x.length : Int) = n then (if anyOut x = true then (0, false, 1) else fitG l x l.length 0) else (0, false, 1)) else (0, false, checkE n l)
theorem anyBad_rd {n : Int} {l : List S24} (h : anyBad n l = false) {i : Nat} (hi : i < l.length) : rightB n (rd_T24 l (i : Nat)) = true := by
 unfold anyBad at h
 rw [List.any_eq_false] at h
 have := h _ (List.getElem_mem hi)
 unfold rd_T24
 rw [Int.toNat_natCast, List.getD_eq_getElem?_getD, List.getElem?_eq_getElem hi]
 simpa using this
theorem anyOut_rd {l : List Int} (h : anyOut l = false) {i : Int} (h0 : 0 ≤ i) (hi : i < l.length) : -1099511627776 ≤ rd l i ∧ rd l i ≤ 1099511627776 := by
 unfold anyOut at h
 rw [List.any_eq_false] at h
 have hi' : i.toNat < l.length := by omega
 have := h _ (List.getElem_mem hi')
 unfold rd
 rw [List.getD_eq_getElem?_getD, List.getElem?_eq_getElem hi']
 simp [smallB] at this
 simpa using this
theorem check_parts {n : Int} {l : List S24} (h : checkE n l = 0) : 1 ≤ n ∧ n ≤ 12 ∧ l.length ≤ 40 ∧ anyBad n l = false := by
 unfold checkE at h
 split at h
 · rename_i hn
   split at h
   · simp at h
   · split at h
     · simp at h
     · rename_i h1 h2; exact ⟨hn.1, hn.2, by omega, by simpa using h2⟩
 · simp at h
theorem right_parts {n : Int} {x : S24} (h : rightB n x = true) (hn : 1 ≤ n) : (0 ≤ x.f0 ∧ x.f0 < n) ∧ (x.f1 = 1 ∨ x.f1 = -1) ∧ (0 ≤ x.f2 ∧ x.f2 < n) ∧ (x.f3 = 0 ∨ x.f3 = 1 ∨ x.f3 = -1) := by
 unfold rightB at h
 simp only [Bool.and_eq_true, decide_eq_true_eq, Bool.or_eq_true] at h
 obtain ⟨⟨⟨⟨⟨⟨⟨h1, h2⟩, h3⟩, h4⟩, h5⟩, h6⟩, h7⟩, h8⟩ := h
 refine ⟨⟨h1, by omega⟩, h3, ?_, by omega⟩
 split at h8
 · simp at h8; omega
 · simp at h8; omega
set_option maxRecDepth 100000 in
set_option maxHeartbeats 4000000 in
theorem Fits_calls (n : Int) (A : Option Addr) (c : Nat) (l : List S24) (B : Option Addr) (d : Nat) (x : List Int) (w : World) (hr : Kd.C k24 w A l.length l) (hc : l.length ≤ c) (hr2 : Kd.C (Kd.int .i64) w B x.length x) (hc2 : x.length ≤ d) :
 Calls Try.prog 29 #[.int .i64 n, .slice A l.length c, .slice B x.length d] w fun e w' => e = .returned (.tuple #[.int .i64 (fitsG n l x).1, .bool (fitsG n l x).2.1, .int .i64 (fitsG n l x).2.2]) ∧ Below w.heap.size w w' := by
 have hu24 := Try.underlying24
 have HR := Aside0.mk hr
 have HX := Aside0.mk hr2
 clear hr hr2
 by_cases hk : checkE n l = 0
 · obtain ⟨h1, h2, h3, h4⟩ := check_parts hk
   have HCC : Aside0 (∀ W, Kd.C k24 W A l.length l → Calls Try.prog 31 #[.int .i64 n, .slice A l.length c] W fun e w' => e = .returned (.int .i64 0) ∧ Below W.heap.size W w') := ⟨fun W h => by rw [← hk]; exact check_calls _ A c l W h hc⟩
   by_cases hn : (x.length : Int) = n
   · have hnb : ((x.length : Int) != n) = false := by rw [hn]; simp
     cases ho : anyOut x
     · have hv : fitsG n l x = fitG l x l.length 0 := by unfold fitsG; rw [if_pos hk, if_pos hn, ho]; rfl
       have HO := Aside0.mk ho
       have HBD := Aside0.mk h4
       rw [hv]
       clear hv hk ho h4
       go_enter Try.func29, Try.ntmps29
       go_upto_region 7 with (first | (go_at_call 31; refine (HCC.out _ HR.out).mono ?_; rintro e w1 ⟨rfl, hb1⟩; have HB1 := Aside0.mk hb1; clear hb1) | (go_at_call 69; refine (contains70_calls B d x _ (by omega) (Kd.C_below HX.out HB1.out) hc2).mono ?_; rw [HO.out]; rintro e w2 ⟨rfl, hb2⟩; have HB2 := Aside0.mk (below_step HB1.out hb2); clear hb2 HB1))
       go_loopw [28] (fun v wr => ∃ i : Nat, v = .int .i64 i ∧ i ≤ l.length ∧ fitG l x l.length 0 = fitG l x (l.length - i) i ∧ Aside0 (Below w.heap.size w wr)) (fun v _ => l.length - (intOf v).toNat)
       case atStart => exact ⟨0, rfl, by omega, rfl, HB2⟩
       case round =>
        clear HB2
        obtain ⟨i, rfl, hi, he, HB⟩ := hrel
        have HE := Aside0.mk he
        clear he
        by_cases hil : i < l.length
        · have hx : (i : Int) < (l.length : Int) := by omega
          obtain ⟨ad, e, hx0, hx1, hx2, hx3, hx4⟩ := at_T24 HR.out (i : Nat) (by omega) hx
          cases e
          replace hx0 := pw_cell_below HB.out hx0
          replace hx1 := pw_cell_below HB.out hx1
          replace hx2 := pw_cell_below HB.out hx2
          replace hx3 := pw_cell_below HB.out hx3
          replace hx4 := pw_cell_below HB.out hx4
          rw [Int.toNat_natCast] at hx0 hx1 hx2 hx3 hx4
          have hstep : l.length - i = (l.length - (i + 1)) + 1 := by omega
          have he2 := HE.out
          rw [hstep] at he2
          simp only [fitG] at he2
          clear hstep HE
          have HE := Aside0.mk he2
          clear he2
          obtain ⟨⟨a0, a1⟩, p, ⟨b0, b1⟩, q⟩ := right_parts (anyBad_rd HBD.out hil) h1
          generalize rd_T24 l (i : Nat) = a at *
          go_upto_region 9 with (fail)
          obtain ⟨ax, ex, hxa⟩ := Kd.at_int HX.out a.f0 a0 (by omega)
          obtain ⟨bx, fx, hxb⟩ := Kd.at_int HX.out a.f2 b0 (by omega)
          cases ex
          cases fx
          replace hxa := pw_cell_below HB.out hxa
          replace hxb := pw_cell_below HB.out hxb
          obtain ⟨xa0, xa1⟩ := anyOut_rd HO.out a0 (by omega)
          obtain ⟨xb0, xb1⟩ := anyOut_rd HO.out b0 (by omega)
          have i0 : a.f0 < (x.length : Int) := by omega
          have i1 : a.f2 < (x.length : Int) := by omega
          have hb0 := (Below.refl _ wr).alloc (Nat.le_refl _) (.cells #[.int .i64 a.f0, .int .i64 a.f1, .int .i64 a.f2, .int .i64 a.f3, .int .i64 a.f4] 24)
          replace hxa := pw_cell_below hb0 hxa
          replace hxb := pw_cell_below hb0 hxb
          generalize hW1 : (wr.alloc (.cells #[.int .i64 a.f0, .int .i64 a.f1, .int .i64 a.f2, .int .i64 a.f3, .int .i64 a.f4] 24)) = W1 at *
          have hX : W1.heap[wr.heap.size]? = some (.cells #[.int .i64 a.f0, .int .i64 a.f1, .int .i64 a.f2, .int .i64 a.f3, .int .i64 a.f4] 24 (0, 0)) := by rw [← hW1]; exact heap1_0 _ _
          have y0 : W1.cell? ⟨wr.heap.size, 0, none⟩ = some (.int .i64 a.f0) := (cell_of hX 0).trans rfl
          have y1 : W1.cell? ⟨wr.heap.size, 1, none⟩ = some (.int .i64 a.f1) := (cell_of hX 1).trans rfl
          have y2 : W1.cell? ⟨wr.heap.size, 2, none⟩ = some (.int .i64 a.f2) := (cell_of hX 2).trans rfl
          have y3 : W1.cell? ⟨wr.heap.size, 3, none⟩ = some (.int .i64 a.f3) := (cell_of hX 3).trans rfl
          have y4 : W1.cell? ⟨wr.heap.size, 4, none⟩ = some (.int .i64 a.f4) := (cell_of hX 4).trans rfl
          have HB1 := Aside0.mk (below_step HB.out hb0)
          generalize wr.heap.size = g at *
          clear hX hW1 hb0 HB hx0 hx1 hx2 hx3 hx4
          have i0b : decide (a.f0 < (x.length : Int)) = true := decide_eq_true i0
          have i1b : decide (a.f2 < (x.length : Int)) = true := decide_eq_true i1
          go_cut [52] (fun v52 wc => v52 = .bool (!fitB x a) ∧ Aside0 (Below w.heap.size w wc))
          case first =>
           go_region_held3 (fun w' => w'.cell? ⟨g, 0, none⟩ = some (.int .i64 a.f0) ∧ w'.cell? ⟨g, 1, none⟩ = some (.int .i64 a.f1) ∧ w'.cell? ⟨g, 2, none⟩ = some (.int .i64 a.f2) ∧ w'.cell? ⟨g, 3, none⟩ = some (.int .i64 a.f3) ∧ w'.cell? ⟨g, 4, none⟩ = some (.int .i64 a.f4) ∧ w'.cell? (ax.add a.f0.toNat) = some (.int .i64 (rd x a.f0)) ∧ w'.cell? (ax.add a.f2.toNat) = some (.int .i64 (rd x a.f2))) (go_keep) (fail)
           all_goals (go_wp2_with fail; go_meet)
           all_goals refine ⟨?_, ⟨below_step HB1.out (Below.refl _ _).drew⟩⟩
           all_goals (rw [fit_wrap p q xa0 xa1 xb0 xb1])
          case rest =>
           obtain ⟨rfl, HB2⟩ := hcut
           clear y0 y1 y2 y3 y4 hxa hxb HB1
           cases hf : fitB x a
           · have hv := HE.out
             rw [hf, if_neg (by simp)] at hv
             have HV := Aside0.mk hv
             clear hv HE
             go_wp2_with fail
             go_ret3
             rw [HV.out]
             exact ⟨rfl, HB2.out⟩
           · have hv := HE.out
             rw [hf, if_pos rfl] at hv
             have HV := Aside0.mk hv
             clear hv HE
             go_wp2_with fail
             go_roundw
             case rel => exact ⟨i + 1, by go_num, by omega, HV.out, HB2⟩
             case measure => simp [intOf]; omega
        · obtain rfl : i = l.length := by omega
          have hv := HE.out
          rw [Nat.sub_self] at hv
          have HV : Aside0 (fitG l x l.length 0 = (0, true, 0)) := ⟨hv⟩
          clear hv HE
          go_wp2_with fail
          go_ret3
          rw [HV.out]
          exact ⟨rfl, HB.out⟩
     · have hv : fitsG n l x = (0, false, 1) := by unfold fitsG; rw [if_pos hk, if_pos hn, if_pos ho]
       have HO := Aside0.mk ho
       rw [hv]
       clear hv hk ho h4
       go_enter Try.func29, Try.ntmps29
       go_wp2_with (first | (go_at_call 31; refine (HCC.out _ HR.out).mono ?_; rintro e w1 ⟨rfl, hb1⟩; have HB1 := Aside0.mk hb1; clear hb1) | (go_at_call 69; refine (contains70_calls B d x _ (by omega) (Kd.C_below HX.out HB1.out) hc2).mono ?_; rw [HO.out]; rintro e w2 ⟨rfl, hb2⟩; have HB2 := Aside0.mk (below_step HB1.out hb2); clear hb2))
       go_ret3
       exact ⟨rfl, HB2.out⟩
   · have hnb : ((x.length : Int) != n) = true := by simpa using hn
     have hv : fitsG n l x = (0, false, 1) := by unfold fitsG; rw [if_pos hk, if_neg hn]
     rw [hv]
     clear hv hk h4
     go_enter Try.func29, Try.ntmps29
     go_wp2_with (go_at_call 31; refine (HCC.out _ HR.out).mono ?_; rintro e w1 ⟨rfl, hb1⟩; have HB1 := Aside0.mk hb1; clear hb1)
     go_ret3
     exact ⟨rfl, HB1.out⟩
 · have hv : fitsG n l x = (0, false, checkE n l) := by unfold fitsG; rw [if_neg hk]
   rw [hv]
   have hcb : (checkE n l != 0) = true := by rw [bne_iff_ne]; exact hk
   clear hk hv
   go_enter Try.func29, Try.ntmps29
   go_wp2_with (go_at_call 31; refine (check_calls n A c l _ HR.out hc).mono ?_; rintro e w1 ⟨rfl, hb1⟩; have HB1 := Aside0.mk hb1; clear hb1)
   go_ret3
   exact ⟨rfl, HB1.out⟩
end Go.Proofs.Ytmoiickbgokloaa.PA
