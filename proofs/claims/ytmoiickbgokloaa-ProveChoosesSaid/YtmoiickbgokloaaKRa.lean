/- Rows: lists of lines, and lines, as arguments. -/
import Derived.Deep.Slices
import Derived.Deep.Fields
import Derived.ChangeSame
import Derived.WalkKit
import Derived.ProofKit
import Derived.OpenShut
import Derived.Test.YtmoiickbgokloaaKPAx0
namespace Go.Proofs.Ytmoiickbgokloaa.PA
open Go.RowKit Go.Proofs.YtmoiickbgokloaaW.PrintWords Go.Proofs.YtmoiickbgokloaaW.PrintLast Go.Proofs.YtmoiickbgokloaaW.PrintMore
open Go.ChangeShapes Go.WideShapes Go.Deep
set_option linter.unusedVariables false
set_option linter.unusedSimpArgs false
section
variable {H : Type} {enc : TypeId × Value → H} {w : World} {base : Nat} {spare : Nat → Bool} {held : Bool}
set_option maxRecDepth 100000 in
/-- A line's cells, read. -/
theorem open_line {fuel : Nat} {cs : List Value} {x : DataW H × List MemPlace} (h : DataW.trod enc Try.prog w base spare held fuel 24 cs = some x) :
 ∃ s : S24, cs = [.int .i64 s.f0, .int .i64 s.f1, .int .i64 s.f2, .int .i64 s.f3, .int .i64 s.f4] := by
 obtain ⟨xs, n, _, _, hlen, hxl, hf⟩ := DataW.trod_struct Try.underlying24 h
 have hc5 : Try.prog.cellsOf 24 = 5 := by kernel_rfl
 have hc1 : Try.prog.cellsOf 3 = 1 := by kernel_rfl
 have hx5 : xs.length = 5 := hxl
 rw [hc5] at hlen
 match cs, hlen with
 | [c0, c1, c2, c3, c4], _ =>
  have key : ∀ (j : Nat) (c : Value), j < 5 → DataW.trod enc Try.prog w base spare held n 3 [c] = xs[j]? → ∃ z, c = .int .i64 z := by
   intro j c hj hh
   rw [List.getElem?_eq_getElem (by omega)] at hh
   obtain ⟨z, hz, _⟩ := DataW.trod_int Try.underlying3 hh
   exact ⟨z, by simpa using hz⟩
  have h0 : DataW.trod enc Try.prog w base spare held n 3 (([c0, c1, c2, c3, c4].drop 0).take (Try.prog.cellsOf 3)) = xs[0]? := hf 0 _ rfl
  have h1 : DataW.trod enc Try.prog w base spare held n 3 (([c0, c1, c2, c3, c4].drop 1).take (Try.prog.cellsOf 3)) = xs[1]? := hf 1 _ rfl
  have h2 : DataW.trod enc Try.prog w base spare held n 3 (([c0, c1, c2, c3, c4].drop 2).take (Try.prog.cellsOf 3)) = xs[2]? := hf 2 _ rfl
  have h3 : DataW.trod enc Try.prog w base spare held n 3 (([c0, c1, c2, c3, c4].drop 3).take (Try.prog.cellsOf 3)) = xs[3]? := hf 3 _ rfl
  have h4 : DataW.trod enc Try.prog w base spare held n 3 (([c0, c1, c2, c3, c4].drop 4).take (Try.prog.cellsOf 3)) = xs[4]? := hf 4 _ rfl
  rw [hc1] at h0 h1 h2 h3 h4
  obtain ⟨z0, rfl⟩ := key 0 c0 (by omega) h0
  obtain ⟨z1, rfl⟩ := key 1 c1 (by omega) h1
  obtain ⟨z2, rfl⟩ := key 2 c2 (by omega) h2
  obtain ⟨z3, rfl⟩ := key 3 c3 (by omega) h3
  obtain ⟨z4, rfl⟩ := key 4 c4 (by omega) h4
  exact ⟨⟨z0, z1, z2, z3, z4⟩, rfl⟩
/-- A list of lines, read. -/
theorem open_lines {fuel : Nat} {a : Option Addr} {len cap : Nat} {x : DataW H × List MemPlace} (h : DataW.trod enc Try.prog w base spare held fuel 22 [.slice a len cap] = some x) :
 ∃ l : List S24, len = l.length ∧ Kd.C k24 w a l.length l ∧ l.length ≤ cap := by
 rcases open_slice Try.underlying22 h with ⟨h0, _⟩ | ⟨a', len', cap', m, n, D, Pl, hcs, hb, hl, hm, hmm, hx, hi⟩
 · simp at h0
   obtain ⟨rfl, rfl, rfl⟩ := h0
   exact ⟨[], rfl, Kd.C_nil _ _, Nat.le_refl _⟩
 · simp at hcs
   obtain ⟨rfl, rfl, rfl⟩ := hcs
   have hc5 : Try.prog.cellsOf 24 = 5 := by kernel_rfl
   have hml : len ≤ m := by rw [hmm]; split <;> omega
   have hex : ∀ i, ∃ s : S24, i < len → ∀ k u, [Value.int .i64 s.f0, .int .i64 s.f1, .int .i64 s.f2, .int .i64 s.f3, .int .i64 s.f4][k]? = some u → w.cell? (a'.add (i * 5 + k)) = some u := by
    intro i
    by_cases hil : i < len
    · obtain ⟨cs', hc, ht⟩ := hi i (by omega)
      obtain ⟨s, rfl⟩ := open_line ht
      obtain ⟨_, _, hat⟩ := World.cells?_some hc
      rw [hc5] at hat
      refine ⟨s, fun _ k u hu => ?_⟩
      have hk : k < 5 := (List.getElem?_eq_some_iff.1 hu).1
      rw [← Go.Deep.add_add, hat k hk]; exact hu
    · exact ⟨z24, fun h => (hil h).elim⟩
   refine ⟨(List.range len).map fun i => Classical.choose (hex i), by simp, ?_, by simpa using hl⟩
   have hlen : ((List.range len).map fun i => Classical.choose (hex i)).length = len := by simp
   rw [hlen]
   refine ⟨by simp, by simp [maxLen] at hm; omega, fun _ => ⟨a', rfl, fun j p hp => ?_⟩⟩
   have hj : j < len := by have := (List.getElem?_eq_some_iff.1 hp).1; simpa using this
   rw [List.getElem?_map, List.getElem?_range hj] at hp
   simp at hp
   subst hp
   exact ⟨_, rfl, k24_mk w _, fun i u hu => Classical.choose_spec (hex j) hj i u hu⟩
end
end Go.Proofs.Ytmoiickbgokloaa.PA
