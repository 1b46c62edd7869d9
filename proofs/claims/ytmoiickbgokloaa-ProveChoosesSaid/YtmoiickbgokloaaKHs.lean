/- Contract by hand, in the print's form: the specification's tight. -/
import Derived.Test.YtmoiickbgokloaaKLUx0
import Derived.Test.YtmoiickbgokloaaKSb
import Derived.Test.YtmoiickbgokloaaKTw
namespace Go.Proofs.Ytmoiickbgokloaa.PA
open Go.RowKit Go.Proofs.YtmoiickbgokloaaW.PrintWords Go.Proofs.YtmoiickbgokloaaW.PrintLast Go.Proofs.YtmoiickbgokloaaW.PrintMore Go.Proofs.Ytmoiickbgokloaa.Utv
set_option linter.unusedVariables false
set_option linter.unusedSimpArgs false
open Classical in
noncomputable def cosignerref12_tight.f (a0 : Int) (l1 : List S24) : Option (List (List Int) × Bool) :=
 if checkE a0 l1 = 0 then some (if satB l1 = true then rowsOf (2 * a0.toNat) (tightV a0.toNat l1) else [], satB l1) else none
theorem cosignerref12_tight.calls (a0 : Int) (A1 : Option Addr) (c1 : Nat) (l1 : List S24) (r1 : List (List Int)) (r2 : Bool) (w : World) (hr1 : Kd.C k24 w A1 l1.length l1) (hc1 : l1.length ≤ c1) (h : cosignerref12_tight.f a0 l1 = some (r1, r2)) :
 Calls Try.prog 60 #[.int .i64 a0, .slice A1 l1.length c1] w fun e w' => ∃ v0_ : Value, e = .returned (.tuple #[v0_, .bool r2]) ∧ Kd.S (Kd.slice 3 (Kd.int .i64)) 46 w' w.heap.size (fun _ => True) v0_ r1 ∧ Below w.heap.size w w' := by
 unfold cosignerref12_tight.f at h
 split at h
 · rename_i hk
   obtain ⟨h1, h2, h3, h4⟩ := check_ok hk
   obtain ⟨n, rfl⟩ : ∃ n : Nat, a0 = n := ⟨a0.toNat, by omega⟩
   have e := Option.some.inj h
   injection e with e1 e2
   subst e1
   subst e2
   rw [Int.toNat_natCast]
   exact tight_calls n A1 c1 l1 w (by omega) (by omega) h4 h3 hr1 hc1 _ rfl
 · cases h
end Go.Proofs.Ytmoiickbgokloaa.PA
