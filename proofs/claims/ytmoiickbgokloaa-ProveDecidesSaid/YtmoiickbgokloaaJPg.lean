/- Plain: the specification takes the steps that Refute and Prove tell. -/
import Derived.Test.YtmoiickbgokloaaJLTx0
import Derived.Test.YtmoiickbgokloaaJPf
namespace Go.Proofs.Ytmoiickbgokloaa.PA
open Go.RowKit Go.Proofs.YtmoiickbgokloaaW.PrintWords Go.Proofs.YtmoiickbgokloaaW.PrintLast Go.Proofs.YtmoiickbgokloaaW.PrintMore Go.Proofs.Ytmoiickbgokloaa.Utv
set_option linter.unusedVariables false
set_option linter.unusedSimpArgs false
theorem in_f (a lo hi : Int) : cosignerref12_in.f a lo hi = some (decide (lo ≤ a) && decide (a ≤ hi)) := by
 unfold cosignerref12_in.f
 by_cases h : lo ≤ a
 · rw [if_pos h]; simp [h]
 · rw [if_neg h]; simp [h]
theorem in_true {a lo hi : Int} (h : lo ≤ a) (h' : a ≤ hi) : cosignerref12_in.f a lo hi = some true := by rw [in_f]; simp [h, h']
end Go.Proofs.Ytmoiickbgokloaa.PA
