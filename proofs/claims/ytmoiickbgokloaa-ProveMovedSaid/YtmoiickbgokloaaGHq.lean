/- Words and walks that the kit's printer wrote for this claim, less what the proofs do not use. -/
import Derived.Test.YtmoiickbgokloaaGLa
namespace Go.Proofs.Ytmoiickbgokloaa.PA
open Go.RowKit Go.Proofs.YtmoiickbgokloaaW.PrintWords Go.Proofs.YtmoiickbgokloaaW.PrintLast Go.Proofs.YtmoiickbgokloaaW.PrintMore Go.Proofs.Ytmoiickbgokloaa.Utv
set_option linter.unusedVariables false
set_option linter.unusedSimpArgs false
noncomputable def prove_Needed.f (a0 : Int) (l1 : List S24) : Option (List Int × Int) := some (prove_Needed.g a0 l1)
theorem prove_Needed.calls (a0 : Int) (A1 : Option Addr) (c1 : Nat) (l1 : List S24) (r1 : List Int) (r2 : Int) (w : World) (hr1 : Kd.C k24 w A1 l1.length l1) (hc1 : l1.length ≤ c1) (h : prove_Needed.f a0 l1 = some (r1, r2)) :
 Calls Try.prog 26 #[.int .i64 a0, .slice A1 l1.length c1] w fun e w' => ∃ v0_ : Value, e = .returned (.tuple #[v0_, .int .i64 r2]) ∧ Kd.R (Kd.int .i64) 3 w' w.heap.size (fun _ => True) v0_ r1 ∧ Below w.heap.size w w' := by
 have hh := Needed_calls a0 A1 c1 l1 w hr1 hc1
 have e := Option.some.inj h
 rw [e] at hh
 exact hh
noncomputable def prove_Core.f (a0 : Int) (l1 : List S24) : Option (List Int × Bool × Int) := some (prove_Core.g a0 l1)
theorem prove_Core.calls (a0 : Int) (A1 : Option Addr) (c1 : Nat) (l1 : List S24) (r1 : List Int) (r2 : Bool) (r3 : Int) (w : World) (hr1 : Kd.C k24 w A1 l1.length l1) (hc1 : l1.length ≤ c1) (h : prove_Core.f a0 l1 = some (r1, r2, r3)) :
 Calls Try.prog 28 #[.int .i64 a0, .slice A1 l1.length c1] w fun e w' => ∃ v0_ : Value, e = .returned (.tuple #[v0_, .bool r2, .int .i64 r3]) ∧ Kd.R (Kd.int .i64) 3 w' w.heap.size (fun _ => True) v0_ r1 ∧ Below w.heap.size w w' := by
 have hh := Core_calls a0 A1 c1 l1 w hr1 hc1
 have e := Option.some.inj h
 rw [e] at hh
 exact hh
end Go.Proofs.Ytmoiickbgokloaa.PA
