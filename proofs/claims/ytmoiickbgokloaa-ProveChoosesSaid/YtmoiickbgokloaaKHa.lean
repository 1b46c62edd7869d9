/- Contracts by hand: prove.Check and what it calls. The list is right exactly if rightB is so of each line. -/
import Derived.Test.YtmoiickbgokloaaKPAx2
namespace Go.Proofs.Ytmoiickbgokloaa.PA
open Go.RowKit Go.Proofs.YtmoiickbgokloaaW.PrintWords Go.Proofs.YtmoiickbgokloaaW.PrintLast Go.Proofs.YtmoiickbgokloaaW.PrintMore
set_option linter.unusedVariables false
set_option linter.unusedSimpArgs false
/-- A line is right. -/
def rightB (n : Int) (x : S24) : Bool :=
 decide (0 ≤ x.f0) && decide (x.f0 ≤ n - 1) && (decide (x.f1 = 1) || decide (x.f1 = -1)) && decide (-1 ≤ x.f3) && decide (x.f3 ≤ 1) && decide (-1000000 ≤ x.f4) && decide (x.f4 ≤ 1000000) &&
  (if x.f3 = 0 then decide (x.f2 = 0) else decide (0 ≤ x.f2) && decide (x.f2 ≤ n - 1) && decide (x.f2 ≠ x.f0))
theorem prove_right_eq (n : Int) (h : -9223372036854775808 < n) (h' : n ≤ 9223372036854775807) (a b c d e : Int) : prove_right.f 1 n a b c d e = some (rightB n ⟨a, b, c, d, e⟩) := by
 have hw : wrap64 (n - 1) = n - 1 := by unfold wrap64; omega
 unfold prove_right.f prove_within.f rightB
 simp only [hw, prove_right.j0, prove_within.f]
 by_cases h1 : 0 ≤ a
 · by_cases h2 : a ≤ n - 1
   · by_cases h3 : b = 1
     · by_cases h4 : -1 ≤ d
       · by_cases h5 : d ≤ 1
         · by_cases h6 : -1000000 ≤ e
           · by_cases h7 : e ≤ 1000000
             · by_cases h8 : d = 0
               · by_cases h9 : c = 0 <;> simp [h1, h2, h3, h4, h5, h6, h7, h8, h9]
               · by_cases h9 : 0 ≤ c <;> by_cases h10 : c ≤ n - 1 <;> by_cases h11 : c = a <;> simp [h1, h2, h3, h4, h5, h6, h7, h8, h9, h10, h11] <;> simp_all
             · simp [h1, h2, h3, h4, h5, h6, h7]
           · simp [h1, h2, h3, h4, h5, h6]
         · simp [h1, h2, h3, h4, h5]
       · simp [h1, h2, h3, h4]
     · by_cases h3' : b = -1
       · by_cases h4 : -1 ≤ d
         · by_cases h5 : d ≤ 1
           · by_cases h6 : -1000000 ≤ e
             · by_cases h7 : e ≤ 1000000
               · by_cases h8 : d = 0
                 · by_cases h9 : c = 0 <;> simp [h1, h2, h3', h4, h5, h6, h7, h8, h9]
                 · by_cases h9 : 0 ≤ c <;> by_cases h10 : c ≤ n - 1 <;> by_cases h11 : c = a <;> simp [h1, h2, h3', h4, h5, h6, h7, h8, h9, h10, h11] <;> simp_all
               · simp [h1, h2, h3', h4, h5, h6, h7]
             · simp [h1, h2, h3', h4, h5, h6]
           · simp [h1, h2, h3', h4, h5]
         · simp [h1, h2, h3', h4]
       · simp [h1, h2, h3, h3']
   · simp [h1, h2]
 · simp [h1]
theorem right_calls (n : Int) (x : S24) (w : World) (h : 1 ≤ n) (h' : n ≤ 12) :
 Calls Try.prog 75 #[.int .i64 n, .agg #[.int .i64 x.f0, .int .i64 x.f1, .int .i64 x.f2, .int .i64 x.f3, .int .i64 x.f4]] w fun e w' => e = .returned (.bool (rightB n x)) ∧ Below w.heap.size w w' :=
 prove_right.calls 1 n x.f0 x.f1 x.f2 x.f3 x.f4 _ w (prove_right_eq n (by omega) (by omega) _ _ _ _ _)
set_option maxRecDepth 100000 in
set_option maxHeartbeats 1000000 in
theorem check1_calls (n : Int) (x : S24) (p : Addr) (w : World) (h : 1 ≤ n) (h' : n ≤ 12) (hp : w.cell? p = some (.int .i64 n)) :
 Calls Try.prog 74 #[.agg #[.int .i64 x.f0, .int .i64 x.f1, .int .i64 x.f2, .int .i64 x.f3, .int .i64 x.f4], .pointer (some p)] w fun e w' => e = .returned (.bool (!rightB n x)) ∧ Below w.heap.size w w' := by
 have hu24 := Try.underlying24
 have hpa : ∀ o, (w.alloc o).cell? p = some (.int .i64 n) := fun o => pw_cell_below ((Below.refl _ w).alloc (Nat.le_refl _) o) hp
 go_enter Try.func74, Try.ntmps74
 go_wp2_with (go_at_call 75; refine (right_calls n x _ h h').mono ?_; rintro e w1 ⟨rfl, hb⟩)
 go_ret
 exact ⟨rfl, below_then ((Below.refl _ w).alloc (Nat.le_refl _) _) (by simp) hb⟩
/-- Some line is not right. -/
def anyBad (n : Int) (l : List S24) : Bool := l.any fun x => !rightB n x
set_option maxRecDepth 100000 in
set_option maxHeartbeats 1000000 in
theorem index_calls (n : Int) (A : Option Addr) (c : Nat) (l : List S24) (p : Addr) (w : World) (h : 1 ≤ n) (h' : n ≤ 12) (hl : l.length ≤ 40) (hr : Kd.C k24 w A l.length l) (hc : l.length ≤ c)
 (hp : w.cell? p = some (.int .i64 n)) :
 Calls Try.prog 109 #[.slice A l.length c, .func (.func 74) #[] #[.pointer (some p)]] w fun e w' => (∃ i : Int, e = .returned (.int .i64 i) ∧ (0 ≤ i ↔ anyBad n l = true)) ∧ Below w.heap.size w w' := by
 have hu24 := Try.underlying24
 have HR := Aside0.mk hr
 clear hr
 have HP := Aside0.mk hp
 clear hp
 go_enter Try.func109, Try.ntmps109
 go_wp2_with fail
 go_loopw [8] (fun v wr => ∃ x : Int, v = .int .i64 x ∧ 0 ≤ x ∧ x ≤ l.length ∧ Aside0 (∀ j : Nat, (j : Int) < x → rightB n (l.getD j z24) = true) ∧ Aside0 (Below w.heap.size w wr)) (fun v _ => l.length - (intOf v).toNat)
 case atStart => exact ⟨0, rfl, by omega, by omega, ⟨fun j hj => by omega⟩, ⟨Below.refl _ _⟩⟩
 case round =>
  obtain ⟨x, rfl, h0, h1, HA, HB⟩ := hrel
  by_cases hx : x < (l.length : Int)
  · obtain ⟨ad, e, hx0, hx1, hx2, hx3, hx4⟩ := at_T24 HR.out x h0 hx
    cases e
    replace hx0 := pw_cell_below HB.out hx0
    replace hx1 := pw_cell_below HB.out hx1
    replace hx2 := pw_cell_below HB.out hx2
    replace hx3 := pw_cell_below HB.out hx3
    replace hx4 := pw_cell_below HB.out hx4
    have hxp := pw_cell_below HB.out HP.out
    by_cases hb : rightB n (rd_T24 l x) = true
    · go_wp2_with (go_at_call 74; refine (check1_calls n (rd_T24 l x) p _ h h' hxp).mono ?_; rintro e w1 ⟨rfl, hb1⟩; rw [hb])
      go_roundw
      case rel => exact ⟨x + 1, by go_num, by omega, by omega, ⟨fun j hj => by
       by_cases e : (j : Int) = x
       · have : rd_T24 l x = l.getD j z24 := by unfold rd_T24; rw [← e]; rfl
         rw [← this]; exact hb
       · exact HA.out j (by omega)⟩, ⟨below_step HB.out hb1⟩⟩
      case measure => simp [intOf]; omega
    · replace hb := Bool.eq_false_iff.mpr hb
      go_wp2_with (go_at_call 74; refine (check1_calls n (rd_T24 l x) p _ h h' hxp).mono ?_; rintro e w1 ⟨rfl, hb1⟩; rw [hb])
      go_ret
      exact ⟨⟨x, rfl, fun _ => by
       unfold anyBad; rw [List.any_eq_true]
       refine ⟨rd_T24 l x, ?_, by rw [hb]; rfl⟩
       unfold rd_T24; rw [List.getD_eq_getElem?_getD, List.getElem?_eq_getElem (by omega)]; exact List.getElem_mem _, fun _ => h0⟩, below_step HB.out hb1⟩
  · go_wp2
    go_ret
    refine ⟨⟨-1, rfl, fun h => by omega, fun hb => ?_⟩, HB.out⟩
    unfold anyBad at hb; rw [List.any_eq_true] at hb
    obtain ⟨y, hy, hyb⟩ := hb
    obtain ⟨j, hj, rfl⟩ := List.getElem_of_mem hy
    have := HA.out j (by omega)
    rw [List.getD_eq_getElem?_getD, List.getElem?_eq_getElem hj] at this
    simp at this hyb; rw [this] at hyb; cases hyb
set_option maxRecDepth 100000 in
set_option maxHeartbeats 1000000 in
theorem contains_calls (n : Int) (A : Option Addr) (c : Nat) (l : List S24) (p : Addr) (w : World) (h : 1 ≤ n) (h' : n ≤ 12) (hl : l.length ≤ 40) (hr : Kd.C k24 w A l.length l) (hc : l.length ≤ c)
 (hp : w.cell? p = some (.int .i64 n)) :
 Calls Try.prog 73 #[.slice A l.length c, .func (.func 74) #[] #[.pointer (some p)]] w fun e w' => e = .returned (.bool (anyBad n l)) ∧ Below w.heap.size w w' := by
 go_enter Try.func73, Try.ntmps73
 go_wp2_with (go_at_call 109; refine (index_calls n A c l p w h h' hl hr hc hp).mono ?_; rintro e w1 ⟨⟨i, rfl, hi⟩, hb1⟩)
 go_ret
 exact ⟨rfl, hb1⟩
/-- What prove.Check tells. -/
def checkE (n : Int) (l : List S24) : Int := if 1 ≤ n ∧ n ≤ 12 then (if 40 < l.length then 3 else if anyBad n l then 1 else 0) else 1
set_option maxRecDepth 100000 in
set_option maxHeartbeats 1000000 in
theorem check_calls (n : Int) (A : Option Addr) (c : Nat) (l : List S24) (w : World) (hr : Kd.C k24 w A l.length l) (hc : l.length ≤ c) :
 Calls Try.prog 31 #[.int .i64 n, .slice A l.length c] w fun e w' => e = .returned (.int .i64 (checkE n l)) ∧ Below w.heap.size w w' := by
 have hpa : (w.alloc (.cells #[.int .i64 n] 3)).cell? ⟨w.heap.size, 0, none⟩ = some (.int .i64 n) := by simp
 by_cases h : 1 ≤ n ∧ n ≤ 12
 · obtain ⟨h1, h2⟩ := h
   have hb0 : Below w.heap.size w (w.alloc (.cells #[.int .i64 n] 3)) := (Below.refl _ w).alloc (Nat.le_refl _) _
   by_cases h3 : 40 < l.length
   · have ev : checkE n l = 3 := by unfold checkE; rw [if_pos ⟨h1, h2⟩, if_pos h3]
     rw [ev]; clear ev
     go_enter Try.func31, Try.ntmps31
     go_wp2_with (go_at_call 71; refine (prove_within.calls n 1 12 true _ (by unfold prove_within.f; rw [if_pos h1]; simp [h2])).mono ?_; rintro e w1 ⟨rfl, ⟨nd, rfl⟩⟩)
     go_ret
     exact ⟨rfl, by simpa using pw_below_drewN hb0 nd⟩
   · have hl : l.length ≤ 40 := by omega
     have HC : ∀ w', Below w.heap.size w w' → Kd.C k24 w' A l.length l := fun w' hb => Kd.C_below hr hb
     have HR := Aside0.mk HC
     clear HC hr
     have hsz : checkE n l = if anyBad n l then 1 else 0 := by unfold checkE; rw [if_pos ⟨h1, h2⟩, if_neg h3]
     rw [hsz]; clear hsz
     go_enter Try.func31, Try.ntmps31
     have hpn : ∀ nd, ((w.alloc (.cells #[.int .i64 n] 3)).drewN nd).cell? ⟨w.heap.size, 0, none⟩ = some (.int .i64 n) := fun nd => by simp
     by_cases hb : anyBad n l = true
     · go_wp2_with (first | (go_at_call 71; refine (prove_within.calls n 1 12 true _ (by unfold prove_within.f; rw [if_pos h1]; simp [h2])).mono ?_; rintro e w1 ⟨rfl, ⟨nd, rfl⟩⟩) | (go_at_call 73; refine (contains_calls n A c l _ _ h1 h2 hl (HR.out _ (pw_below_drewN hb0 nd)) hc (hpn nd)).mono ?_; rintro e w2 ⟨rfl, hb2⟩; rw [hb]))
       all_goals go_ret
       all_goals exact ⟨rfl, below_step (pw_below_drewN hb0 nd) hb2⟩
     · replace hb := Bool.eq_false_iff.mpr hb
       go_wp2_with (first | (go_at_call 71; refine (prove_within.calls n 1 12 true _ (by unfold prove_within.f; rw [if_pos h1]; simp [h2])).mono ?_; rintro e w1 ⟨rfl, ⟨nd, rfl⟩⟩) | (go_at_call 73; refine (contains_calls n A c l _ _ h1 h2 hl (HR.out _ (pw_below_drewN hb0 nd)) hc (hpn nd)).mono ?_; rintro e w2 ⟨rfl, hb2⟩; rw [hb]))
       all_goals go_ret
       all_goals exact ⟨rfl, below_step (pw_below_drewN hb0 nd) hb2⟩
 · have ev : checkE n l = 1 := by unfold checkE; rw [if_neg h]
   rw [ev]; clear ev
   have hf : prove_within.f n 1 12 = some false := by
    unfold prove_within.f
    by_cases h1 : 1 ≤ n
    · rw [if_pos h1]; simp; omega
    · rw [if_neg h1]
   go_enter Try.func31, Try.ntmps31
   go_wp2_with (go_at_call 71; refine (prove_within.calls n 1 12 false _ hf).mono ?_; rintro e w1 ⟨rfl, ⟨nd, rfl⟩⟩)
   go_ret
   exact ⟨rfl, pw_below_drewN ((Below.refl _ w).alloc (Nat.le_refl _) _) nd⟩
end Go.Proofs.Ytmoiickbgokloaa.PA
