/- Rows: lists of numbers as arguments. -/
import Derived.Test.YtmoiickbgokloaaERa
namespace Go.Proofs.Ytmoiickbgokloaa.PA
open Go.RowKit Go.Proofs.YtmoiickbgokloaaW.PrintWords Go.Proofs.YtmoiickbgokloaaW.PrintLast Go.Proofs.YtmoiickbgokloaaW.PrintMore
open Go.ChangeShapes Go.WideShapes Go.Deep
set_option linter.unusedVariables false
set_option linter.unusedSimpArgs false
section
variable {H : Type} {enc : TypeId × Value → H} {w : World} {base : Nat} {spare : Nat → Bool} {held : Bool}
set_option maxRecDepth 100000 in
/-- A list of numbers, read. -/
theorem open_nums {fuel : Nat} {a : Option Addr} {len cap : Nat} {x : DataW H × List MemPlace} (h : DataW.trod enc Try.prog w base spare held fuel 46 [.slice a len cap] = some x) :
 ∃ l : List Int, len = l.length ∧ Kd.C (Kd.int .i64) w a l.length l ∧ l.length ≤ cap := by
 rcases open_slice Try.underlying46 h with ⟨h0, _⟩ | ⟨a', len', cap', m, n, D, Pl, hcs, hb, hl, hm, hmm, hx, hi⟩
 · simp at h0
   obtain ⟨rfl, rfl, rfl⟩ := h0
   exact ⟨[], rfl, Kd.C_nil _ _, Nat.le_refl _⟩
 · simp at hcs
   obtain ⟨rfl, rfl, rfl⟩ := hcs
   have hc1 : Try.prog.cellsOf 3 = 1 := by kernel_rfl
   have hml : len ≤ m := by rw [hmm]; split <;> omega
   have hex : ∀ i, ∃ z : Int, i < len → w.cell? (a'.add i) = some (.int .i64 z) := by
    intro i
    by_cases hil : i < len
    · obtain ⟨cs', hc, ht⟩ := hi i (by omega)
      obtain ⟨z, hz, _⟩ := DataW.trod_int Try.underlying3 ht
      obtain ⟨_, hl2, hat⟩ := World.cells?_some hc
      rw [hc1] at hat
      refine ⟨z, fun _ => ?_⟩
      have e0 := hat 0 (by omega)
      rw [Go.Deep.add_add, hz] at e0
      have e1 : i * 1 + 0 = i := by omega
      rw [e1] at e0
      exact e0
    · exact ⟨0, fun h => (hil h).elim⟩
   refine ⟨(List.range len).map fun i => Classical.choose (hex i), by simp, ?_, by simpa using hl⟩
   have hlen : ((List.range len).map fun i => Classical.choose (hex i)).length = len := by simp
   rw [hlen]
   refine ⟨by simp, by simp [maxLen] at hm; omega, fun _ => ⟨a', rfl, fun j p hp => ?_⟩⟩
   have hj : j < len := by have := (List.getElem?_eq_some_iff.1 hp).1; simpa using this
   rw [List.getElem?_map, List.getElem?_range hj] at hp
   simp at hp
   subst hp
   refine ⟨_, rfl, rfl, fun i u hu => ?_⟩
   have hi0 : i = 0 := by have := (List.getElem?_eq_some_iff.1 hu).1; simp at this; omega
   subst hi0
   simp at hu
   rw [← hu]
   have e : j * (Kd.int .i64).sz + 0 = j := by show j * 1 + 0 = j; omega
   rw [e]
   exact Classical.choose_spec (hex j) hj
end
end Go.Proofs.Ytmoiickbgokloaa.PA
