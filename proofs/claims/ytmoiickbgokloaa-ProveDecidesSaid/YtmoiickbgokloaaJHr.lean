/- Words and walks that the kit's printer wrote for this claim, less what the proofs do not use. -/
import Derived.Test.YtmoiickbgokloaaJLa
import Derived.Test.YtmoiickbgokloaaJFa
namespace Go.Proofs.Ytmoiickbgokloaa.PA
open Go.RowKit Go.Proofs.YtmoiickbgokloaaW.PrintWords Go.Proofs.YtmoiickbgokloaaW.PrintLast Go.Proofs.YtmoiickbgokloaaW.PrintMore
attribute [local go_sem] max2_int min2_int max_two min_two max_three min_three max_four min_four   -- for this text's walks alone
set_option linter.unusedVariables false
set_option linter.unusedSimpArgs false
end Go.Proofs.Ytmoiickbgokloaa.PA
namespace Go.Proofs.Ytmoiickbgokloaa.PA
open Go.RowKit Go.Proofs.YtmoiickbgokloaaW.PrintWords Go.Proofs.YtmoiickbgokloaaW.PrintLast Go.Proofs.YtmoiickbgokloaaW.PrintMore Go.Proofs.Ytmoiickbgokloaa.Utv
set_option linter.unusedVariables false
set_option linter.unusedSimpArgs false
/-- The numbers of a list. -/
def xf (x : List Int) : Nat → Int := fun i => rd x (i : Nat)
theorem rd_nat {x : List Int} {i : Int} : rd x ((i.toNat : Nat) : Int) = rd x i := by unfold rd; rw [Int.toNat_natCast]
theorem fitB_iff {x : List Int} {a : S24} : fitB x a = true ↔ fits (xf x) a := by
 unfold fitB fits lhs xf
 rw [rd_nat, rd_nat]
 simp
theorem fitG_all {l : List S24} {x : List Int} : ∀ (d i : Nat), (∀ j, i ≤ j → j < i + d → fitB x (rd_T24 l (j : Nat)) = true) → fitG l x d i = (0, true, 0)
 | 0, i, _ => rfl
 | d + 1, i, h => by
  simp only [fitG]
  rw [if_pos (h i (by omega) (by omega))]
  exact fitG_all d (i + 1) fun j h1 h2 => h j (by omega) (by omega)
theorem rdT_get {l : List S24} {j : Nat} (h : j < l.length) : rd_T24 l (j : Nat) = l[j] := by
 unfold rd_T24; rw [Int.toNat_natCast, List.getD_eq_getElem?_getD, List.getElem?_eq_getElem h]; rfl
end Go.Proofs.Ytmoiickbgokloaa.PA
