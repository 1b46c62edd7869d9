/- Words and walks that the kit's printer wrote for this claim, less what the proofs do not use. -/
import Derived.Test.YtmoiickbgokloaaKTg
import Derived.Test.YtmoiickbgokloaaKSh
import Derived.Test.YtmoiickbgokloaaKHo
namespace Go.Proofs.Ytmoiickbgokloaa.PA
open Go.RowKit Go.Proofs.YtmoiickbgokloaaW.PrintWords Go.Proofs.YtmoiickbgokloaaW.PrintLast Go.Proofs.YtmoiickbgokloaaW.PrintMore Go.Proofs.Ytmoiickbgokloaa.Utv
set_option linter.unusedVariables false
set_option linter.unusedSimpArgs false
theorem turn_right {n k : Int} {x : S24} (h : rightB n x = true) : rightB n (turnS k x) = true := by
 have r := rt_of_right h
 have hp := r.p
 have hq := r.q
 refine right_of_rt ⟨⟨r.a0, r.a1, ?_, r.m0, r.m1, ?_⟩, r.n0, r.n1⟩
 · show (if x.f0 = k then -x.f1 else x.f1) = 1 ∨ (if x.f0 = k then -x.f1 else x.f1) = -1
   split <;> omega
 · show ((if x.f2 = k then -x.f3 else x.f3) = 0 ∧ x.f2 = 0) ∨ (((if x.f2 = k then -x.f3 else x.f3) = 1 ∨ (if x.f2 = k then -x.f3 else x.f3) = -1) ∧ 0 ≤ x.f2 ∧ x.f2 < n ∧ x.f2 ≠ x.f0)
   split <;> omega
theorem all_check {n : Int} {l l' : List S24} (h : checkE n l = 0) (hl : l'.length = l.length) (ha : l'.all (rightB n) = true) : checkE n l' = 0 := by
 obtain ⟨h1, h2, h3, _⟩ := check_ok h
 exact ok_check h1 h2 (by omega) fun x hx => rt_of_right (List.all_eq_true.1 ha x hx)
theorem turned_eq {n k : Int} {l : List S24} (hc : checkE n l = 0) (hk : 0 ≤ k) (hkn : k < n) : turnedG n l k = (l.map (turnS k), 0) ∧ checkE n (l.map (turnS k)) = 0 := by
 obtain ⟨h1, h2, h3, h4⟩ := check_ok hc
 have ha : (l.map (turnS k)).all (rightB n) = true := List.all_eq_true.2 fun y hy => by
  obtain ⟨x, hx, rfl⟩ := List.mem_map.1 hy
  exact turn_right (right_of_rt (h4 x hx))
 have i1 : indexE n l k = 0 := by unfold indexE; rw [if_pos hc, if_pos (by omega)]
 refine ⟨?_, all_check hc (by simp) ha⟩
 unfold turnedG changedG
 rw [if_pos i1, if_pos ha]
end Go.Proofs.Ytmoiickbgokloaa.PA
