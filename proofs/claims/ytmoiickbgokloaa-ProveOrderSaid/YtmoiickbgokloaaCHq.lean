/- Contracts by hand, in the print's form: Possible, Most, Entails, Span, Needed, Core, the law's right, sanity. -/
import Derived.Test.YtmoiickbgokloaaCLa
namespace Go.Proofs.Ytmoiickbgokloaa.PA
open Go.RowKit Go.Proofs.YtmoiickbgokloaaW.PrintWords Go.Proofs.YtmoiickbgokloaaW.PrintLast Go.Proofs.YtmoiickbgokloaaW.PrintMore Go.Proofs.Ytmoiickbgokloaa.Utv
set_option linter.unusedVariables false
set_option linter.unusedSimpArgs false
noncomputable def prove_Most.f (a0 : Int) (l1 : List S24) (b0 b1 b2 b3 b4 : Int) : Option (Int × Int) := some (prove_Most.g a0 l1 ⟨b0, b1, b2, b3, b4⟩)
theorem prove_Most.calls (a0 : Int) (A1 : Option Addr) (c1 : Nat) (l1 : List S24) (b0 b1 b2 b3 b4 : Int) (r1 : Int) (r2 : Int) (w : World) (hr1 : Kd.C k24 w A1 l1.length l1) (hc1 : l1.length ≤ c1) (h : prove_Most.f a0 l1 b0 b1 b2 b3 b4 = some (r1, r2)) :
    Calls Try.prog 18 #[.int .i64 a0, .slice A1 l1.length c1, .agg #[.int .i64 b0, .int .i64 b1, .int .i64 b2, .int .i64 b3, .int .i64 b4]] w fun e w' => e = .returned (.tuple #[.int .i64 r1, .int .i64 r2]) ∧ Below w.heap.size w w' := by
  have hh := Most_calls a0 A1 c1 l1 ⟨b0, b1, b2, b3, b4⟩ w hr1 hc1
  have e := Option.some.inj h
  rw [e] at hh
  exact hh
noncomputable def prove_Entails.f (a0 : Int) (l1 : List S24) (b0 b1 b2 b3 b4 : Int) : Option (Bool × Int) := some (prove_Entails.g a0 l1 ⟨b0, b1, b2, b3, b4⟩)
theorem prove_Entails.calls (a0 : Int) (A1 : Option Addr) (c1 : Nat) (l1 : List S24) (b0 b1 b2 b3 b4 : Int) (r1 : Bool) (r2 : Int) (w : World) (hr1 : Kd.C k24 w A1 l1.length l1) (hc1 : l1.length ≤ c1) (h : prove_Entails.f a0 l1 b0 b1 b2 b3 b4 = some (r1, r2)) :
    Calls Try.prog 25 #[.int .i64 a0, .slice A1 l1.length c1, .agg #[.int .i64 b0, .int .i64 b1, .int .i64 b2, .int .i64 b3, .int .i64 b4]] w fun e w' => e = .returned (.tuple #[.bool r1, .int .i64 r2]) ∧ Below w.heap.size w w' := by
  have hh := Entails_calls a0 A1 c1 l1 ⟨b0, b1, b2, b3, b4⟩ w hr1 hc1
  have e := Option.some.inj h
  rw [e] at hh
  exact hh
noncomputable def prove_Span.f (a0 : Int) (l1 : List S24) (a2 : Int) : Option (Int × Int × Int) := some (prove_Span.g a0 l1 a2)
theorem prove_Span.calls (a0 : Int) (A1 : Option Addr) (c1 : Nat) (l1 : List S24) (a2 : Int) (r1 : Int) (r2 : Int) (r3 : Int) (w : World) (hr1 : Kd.C k24 w A1 l1.length l1) (hc1 : l1.length ≤ c1) (h : prove_Span.f a0 l1 a2 = some (r1, r2, r3)) :
    Calls Try.prog 20 #[.int .i64 a0, .slice A1 l1.length c1, .int .i64 a2] w fun e w' => e = .returned (.tuple #[.int .i64 r1, .int .i64 r2, .int .i64 r3]) ∧ Below w.heap.size w w' := by
  have hh := Span_calls a0 A1 c1 l1 a2 w hr1 hc1
  have e := Option.some.inj h
  rw [e] at hh
  exact hh
noncomputable def prove_Needed.f (a0 : Int) (l1 : List S24) : Option (List Int × Int) := some (prove_Needed.g a0 l1)
theorem prove_Needed.calls (a0 : Int) (A1 : Option Addr) (c1 : Nat) (l1 : List S24) (r1 : List Int) (r2 : Int) (w : World) (hr1 : Kd.C k24 w A1 l1.length l1) (hc1 : l1.length ≤ c1) (h : prove_Needed.f a0 l1 = some (r1, r2)) :
    Calls Try.prog 26 #[.int .i64 a0, .slice A1 l1.length c1] w fun e w' => ∃ v0_ : Value, e = .returned (.tuple #[v0_, .int .i64 r2]) ∧ Kd.R (Kd.int .i64) 3 w' w.heap.size (fun _ => True) v0_ r1 ∧ Below w.heap.size w w' := by
  have hh := Needed_calls a0 A1 c1 l1 w hr1 hc1
  have e := Option.some.inj h
  rw [e] at hh
  exact hh
noncomputable def prove_Core.f (a0 : Int) (l1 : List S24) : Option (List Int × Bool × Int) := some (prove_Core.g a0 l1)
theorem prove_Core.calls (a0 : Int) (A1 : Option Addr) (c1 : Nat) (l1 : List S24) (r1 : List Int) (r2 : Bool) (r3 : Int) (w : World) (hr1 : Kd.C k24 w A1 l1.length l1) (hc1 : l1.length ≤ c1) (h : prove_Core.f a0 l1 = some (r1, r2, r3)) :
    Calls Try.prog 28 #[.int .i64 a0, .slice A1 l1.length c1] w fun e w' => ∃ v0_ : Value, e = .returned (.tuple #[v0_, .bool r2, .int .i64 r3]) ∧ Kd.R (Kd.int .i64) 3 w' w.heap.size (fun _ => True) v0_ r1 ∧ Below w.heap.size w w' := by
  have hh := Core_calls a0 A1 c1 l1 w hr1 hc1
  have e := Option.some.inj h
  rw [e] at hh
  exact hh
def cosignerlaw12_right.f (a0 : Int) (l1 : List S24) : Option Bool := some (checkE a0 l1 == 0)
theorem cosignerlaw12_right.calls (a0 : Int) (A1 : Option Addr) (c1 : Nat) (l1 : List S24) (r : Bool) (w : World) (hr1 : Kd.C k24 w A1 l1.length l1) (hc1 : l1.length ≤ c1) (h : cosignerlaw12_right.f a0 l1 = some r) :
    Calls Try.prog 22 #[.int .i64 a0, .slice A1 l1.length c1] w fun e w' => e = .returned (.bool r) ∧ Below w.heap.size w w' := by
  obtain rfl := Option.some.inj h
  exact lright_calls a0 A1 c1 l1 w hr1 hc1
def cosignerlaw12_sanity.f : Option Bool := some true
theorem cosignerlaw12_sanity.calls (r : Bool) (w : World) (h : cosignerlaw12_sanity.f = some r) : Calls Try.prog 17 #[] w fun e w' => e = .returned (.bool r) ∧ Below w.heap.size w w' := by
  obtain rfl := Option.some.inj h
  exact sanity_calls w
end Go.Proofs.Ytmoiickbgokloaa.PA
