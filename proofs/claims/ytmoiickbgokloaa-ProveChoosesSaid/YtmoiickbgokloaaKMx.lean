/- A square matrix as a row of rows in memory: read, and one entry written. -/
import Derived.Test.YtmoiickbgokloaaKTg
namespace Go.Proofs.Ytmoiickbgokloaa.PA
open Go.RowKit Go.Proofs.YtmoiickbgokloaaW.PrintWords Go.Proofs.YtmoiickbgokloaaW.PrintLast Go.Proofs.YtmoiickbgokloaaW.PrintMore Go.Proofs.Ytmoiickbgokloaa.Utv
set_option linter.unusedVariables false
set_option linter.unusedSimpArgs false
def rowOf (N : Nat) (m : Vm) (i : Nat) : List Int := (List.range N).map fun j => m i j
def rowsOf (N : Nat) (m : Vm) : List (List Int) := (List.range N).map fun i => rowOf N m i
theorem rowOf_len (N : Nat) (m : Vm) (i : Nat) : (rowOf N m i).length = N := by unfold rowOf; simp
theorem rowsOf_len (N : Nat) (m : Vm) : (rowsOf N m).length = N := by unfold rowsOf; simp
theorem rowsOf_get {N : Nat} (m : Vm) {i : Nat} (hi : i < N) : (rowsOf N m).getD i [] = rowOf N m i := by
 unfold rowsOf
 rw [List.getD_eq_getElem?_getD, List.getElem?_map, List.getElem?_range hi]; rfl
theorem rowOf_get {N : Nat} (m : Vm) (i : Nat) {j : Nat} (hj : j < N) : (rowOf N m i).getD j 0 = m i j := by
 unfold rowOf
 rw [List.getD_eq_getElem?_getD, List.getElem?_map, List.getElem?_range hj]; rfl
theorem rowsOf_set {N : Nat} (m : Vm) {i j : Nat} (hi : i < N) (v : Int) : (rowsOf N m).set i ((rowOf N m i).set j v) = rowsOf N (Vm.set m i j v) := by
 apply List.ext_getElem?
 intro p
 by_cases hp : p < N
 · by_cases e : p = i
   · subst e
     rw [List.getElem?_set_self (by rw [rowsOf_len]; exact hi)]
     unfold rowsOf
     rw [List.getElem?_map, List.getElem?_range hp]
     simp only [Option.map_some]
     congr 1
     apply List.ext_getElem?
     intro q
     by_cases hq : q < N
     · by_cases e2 : q = j
       · subst e2
         rw [List.getElem?_set_self (by rw [rowOf_len]; exact hq)]
         unfold rowOf
         rw [List.getElem?_map, List.getElem?_range hq]
         simp only [Option.map_some, Vm.set_same]
       · rw [List.getElem?_set_ne (Ne.symm e2)]
         unfold rowOf
         rw [List.getElem?_map, List.getElem?_map, List.getElem?_range hq]
         simp only [Option.map_some]
         rw [Vm.set_ne _ _ (by omega)]
     · rw [List.getElem?_eq_none (by rw [List.length_set, rowOf_len]; omega), List.getElem?_eq_none (by rw [rowOf_len]; omega)]
   · rw [List.getElem?_set_ne (Ne.symm e)]
     unfold rowsOf
     rw [List.getElem?_map, List.getElem?_map, List.getElem?_range hp]
     simp only [Option.map_some]
     congr 1
     unfold rowOf
     apply List.map_congr_left
     intro q _
     rw [Vm.set_ne _ _ (by omega)]
 · rw [List.getElem?_eq_none (by rw [List.length_set, rowsOf_len]; omega), List.getElem?_eq_none (by rw [rowsOf_len]; omega)]
theorem rowsOf_congr {N : Nat} {m m' : Vm} (h : ∀ p q, p < N → q < N → m p q = m' p q) : rowsOf N m = rowsOf N m' := by
 unfold rowsOf rowOf
 apply List.map_congr_left
 intro p hp
 apply List.map_congr_left
 intro q hq
 exact h p q (List.mem_range.1 hp) (List.mem_range.1 hq)
/-- The matrix lies at g. -/
def Mx (w : World) (base g cap N : Nat) (m : Vm) : Prop := Kd.S (Kd.slice 3 (Kd.int .i64)) 46 w base (fun _ => True) (.slice (some ⟨g, 0, none⟩) N cap) (rowsOf N m)
theorem Mx.congr {w : World} {base g cap N : Nat} {m m' : Vm} (h : Mx w base g cap N m) (hm : ∀ p q, p < N → q < N → m p q = m' p q) : Mx w base g cap N m' := by
 unfold Mx at h ⊢
 rw [← rowsOf_congr hm]; exact h
theorem Mx.below {w w' : World} {base g cap N : Nat} {m : Vm} (h : Mx w base g cap N m) (hb : Below w.heap.size w w') : Mx w' base g cap N m := Kd.S_below h hb
theorem Mx.row {w : World} {base g cap N : Nat} {m : Vm} (h : Mx w base g cap N m) {i : Nat} (hi : i < N) :
 ∃ gi ci, w.cell? ⟨g, i, none⟩ = some (.slice (some ⟨gi, 0, none⟩) N ci) ∧ (∀ k, k < N → w.cell? ⟨gi, k, none⟩ = some (.int .i64 (m i k)) ∧ w.frozen? ⟨gi, k, none⟩ = false) ∧
  ∀ k v, k < N → Mx (w.setCell ⟨gi, k, none⟩ (.int .i64 v)) base g cap N (Vm.set m i k v) ∧ w.grownBy (w.setCell ⟨gi, k, none⟩ (.int .i64 v)) (some gi) ∧ base ≤ gi := by
 obtain ⟨oki, c, hcl, hM, hcc, hok, hback⟩ := Kd.S_borrow h ([] : List Int) (i : Int) (by omega) (by omega)
 rw [Int.toNat_natCast, rowsOf_get m hi] at hM
 obtain ⟨v, rfl, hR⟩ := hM
 obtain ⟨gi, ci, rfl, hbase, _, _⟩ := Kd.R_form hR (by rw [rowOf_len]; omega)
 rw [rowOf_len] at hR
 refine ⟨gi, ci, ?_, fun k hk => ?_, fun k v hk => ?_⟩
 · have := hcc 0 _ rfl
   rw [Int.toNat_natCast, rowOf_len] at this
   have e : (⟨g, 0, none⟩ : Addr).add (i * (Kd.slice 3 (Kd.int .i64)).sz + 0) = ⟨g, i, none⟩ := by
    have : (Kd.slice 3 (Kd.int .i64)).sz = 1 := rfl
    rw [this]
    unfold Addr.add; split <;> simp_all
   rw [e] at this
   exact this
 · have := Kd.R_celln (enc := Value.int .i64) (h1 := fun _ => rfl) 0 hR (k : Nat) (by omega) (by omega)
   rw [Int.toNat_natCast] at this
   have e : rdOf 0 (rowOf N m i) (k : Nat) = m i k := by
    unfold rdOf; rw [Int.toNat_natCast]; exact rowOf_get m i hk
   rw [e] at this
   exact this
 · obtain ⟨h1, h2⟩ := Kd.R_putg (enc := Value.int .i64) (h1 := fun _ => rfl) hR (k : Nat) v
   rw [Int.toNat_natCast] at h1 h2
   refine ⟨?_, h2, hbase⟩
   have ho : oki gi := hR.1 gi rfl
   have hb := hback (x' := (rowOf N m i).set k v) h2 (fun k' hk' => by injection hk' with e; rw [← e]; exact ho) ⟨_, rfl, by rw [rowOf_len]; exact h1⟩
   rw [Int.toNat_natCast, rowsOf_set m hi] at hb
   exact hb
end Go.Proofs.Ytmoiickbgokloaa.PA
