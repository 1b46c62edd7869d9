/- Rows: lists of numbers, as arguments. -/
import Derived.Deep.Slices
import Derived.Deep.Fields
import Derived.ChangeSame
import Derived.WalkKit
import Derived.ProofKit
import Derived.OpenShut
import Derived.Test.YtmoiickbgokloaaGRa
namespace Go.Proofs.Ytmoiickbgokloaa.PA
open Go.RowKit Go.Proofs.YtmoiickbgokloaaW.PrintWords Go.Proofs.YtmoiickbgokloaaW.PrintLast Go.Proofs.YtmoiickbgokloaaW.PrintMore
open Go.ChangeShapes Go.WideShapes Go.Deep
set_option linter.unusedVariables false
set_option linter.unusedSimpArgs false
section
variable {H : Type} {enc : TypeId × Value → H} {w : World} {base : Nat} {spare : Nat → Bool} {held : Bool}
/-- A number's cell, read. -/
theorem open_num {fuel : Nat} {cs : List Value} {x : DataW H × List MemPlace} (h : DataW.trod enc Try.prog w base spare held fuel 3 cs = some x) : ∃ z, cs = [.int .i64 z] := by
 obtain ⟨z, hz, _⟩ := DataW.trod_int Try.underlying3 h
 exact ⟨z, hz⟩
set_option maxRecDepth 100000 in
/-- A list of numbers, read. -/
theorem open_nums {fuel : Nat} {a : Option Addr} {len cap : Nat} {x : DataW H × List MemPlace} (h : DataW.trod enc Try.prog w base spare held fuel 46 [.slice a len cap] = some x) :
 ∃ l : List Int, len = l.length ∧ Kd.C (Kd.int .i64) w a l.length l ∧ l.length ≤ cap := by
 rcases open_slice Try.underlying46 h with ⟨h0, _⟩ | ⟨a', len', cap', m, n, D, Pl, hcs, hb, hl, hm, hmm, hx, hi⟩
 · simp at h0
   obtain ⟨rfl, rfl, rfl⟩ := h0
   exact ⟨[], rfl, Kd.C_nil _ _, Nat.le_refl _⟩
 · simp at hcs
   obtain ⟨rfl, rfl, rfl⟩ := hcs
   have hc5 : Try.prog.cellsOf 3 = 1 := by kernel_rfl
   have hml : len ≤ m := by rw [hmm]; split <;> omega
   have hex : ∀ i, ∃ z : Int, i < len → ∀ k u, [Value.int .i64 z][k]? = some u → w.cell? (a'.add (i * 1 + k)) = some u := by
    intro i
    by_cases hil : i < len
    · obtain ⟨cs', hc, ht⟩ := hi i (by omega)
      obtain ⟨n2, hm2⟩ := open_num ht
      obtain rfl := hm2
      obtain ⟨_, _, hat⟩ := World.cells?_some hc
      rw [hc5] at hat
      refine ⟨n2, fun _ k u hu => ?_⟩
      have hk : k < 1 := (List.getElem?_eq_some_iff.1 hu).1
      rw [← Go.Deep.add_add, hat k hk]; exact hu
    · exact ⟨0, fun h => (hil h).elim⟩
   refine ⟨(List.range len).map fun i => Classical.choose (hex i), by simp, ?_, by simpa using hl⟩
   have hlen : ((List.range len).map fun i => Classical.choose (hex i)).length = len := by simp
   rw [hlen]
   refine ⟨by simp, by simp [maxLen] at hm; omega, fun _ => ⟨a', rfl, fun j p hp => ?_⟩⟩
   have hj : j < len := by have := (List.getElem?_eq_some_iff.1 hp).1; simpa using this
   rw [List.getElem?_map, List.getElem?_range hj] at hp
   simp only [Option.map_some, Option.some.injEq] at hp
   subst hp
   exact ⟨[.int .i64 (Classical.choose (hex j))], rfl, rfl, fun i u hu => Classical.choose_spec (hex j) hj i u hu⟩
end
end Go.Proofs.Ytmoiickbgokloaa.PA
