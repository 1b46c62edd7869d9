/- Words and walks that the kit's printer wrote for this claim, less what the proofs do not use. -/
import Derived.Test.YtmoiickbgokloaaGHq
import Derived.Test.YtmoiickbgokloaaGFa
namespace Go.Proofs.Ytmoiickbgokloaa.PA
open Go.RowKit Go.Proofs.YtmoiickbgokloaaW.PrintWords Go.Proofs.YtmoiickbgokloaaW.PrintLast Go.Proofs.YtmoiickbgokloaaW.PrintMore Go.Proofs.Ytmoiickbgokloaa.Utv
set_option linter.unusedVariables false
set_option linter.unusedSimpArgs false
def prove_Fits.f (a0 : Int) (l1 : List S24) (l2 : List Int) : Option (Int × Bool × Int) := some (fitsG a0 l1 l2)
theorem prove_Fits.calls (a0 : Int) (A1 : Option Addr) (c1 : Nat) (l1 : List S24) (A2 : Option Addr) (c2 : Nat) (l2 : List Int) (r1 : Int) (r2 : Bool) (r3 : Int) (w : World) (hr1 : Kd.C k24 w A1 l1.length l1) (hc1 : l1.length ≤ c1) (hr2 : Kd.C (Kd.int .i64) w A2 l2.length l2) (hc2 : l2.length ≤ c2) (h : prove_Fits.f a0 l1 l2 = some (r1, r2, r3)) :
 Calls Try.prog 29 #[.int .i64 a0, .slice A1 l1.length c1, .slice A2 l2.length c2] w fun e w' => e = .returned (.tuple #[.int .i64 r1, .bool r2, .int .i64 r3]) ∧ Below w.heap.size w w' := by
 have hh := Fits_calls a0 A1 c1 l1 A2 c2 l2 w hr1 hc1 hr2 hc2
 have e := Option.some.inj h
 rw [e] at hh
 exact hh
end Go.Proofs.Ytmoiickbgokloaa.PA
