/- Words and walks that the kit's printer wrote for this claim, less what the proofs do not use. -/
import Derived.Test.YtmoiickbgokloaaGLUx0
import Derived.Test.YtmoiickbgokloaaGSb
namespace Go.Proofs.Ytmoiickbgokloaa.PA
open Go.RowKit Go.Proofs.YtmoiickbgokloaaW.PrintWords Go.Proofs.YtmoiickbgokloaaW.PrintLast Go.Proofs.YtmoiickbgokloaaW.PrintMore Go.Proofs.Ytmoiickbgokloaa.Utv
set_option linter.unusedVariables false
set_option linter.unusedSimpArgs false
set_option maxRecDepth 100000 in
set_option maxHeartbeats 1000000 in
theorem lright_calls (n : Int) (A : Option Addr) (c : Nat) (l : List S24) (w : World) (hr : Kd.C k24 w A l.length l) (hc : l.length ≤ c) :
 Calls Try.prog 22 #[.int .i64 n, .slice A l.length c] w fun e w' => e = .returned (.bool (checkE n l == 0)) ∧ Below w.heap.size w w' := by
 have HL := Aside0.mk hr
 clear hr
 by_cases hl : l.length ≤ 40
 · have hd : decide ((l.length : Int) ≤ 40) = true := decide_eq_true (by omega)
   go_enter Try.func22, Try.ntmps22
   go_wp2_with (go_at_call 31; refine (check_calls n A c l _ HL.out hc).mono ?_; rintro e w1 ⟨rfl, hb1⟩; have HB1 := Aside0.mk hb1; clear hb1)
   go_ret
   exact ⟨rfl, HB1.out⟩
 · have hd : decide ((l.length : Int) ≤ 40) = false := decide_eq_false (by omega)
   have hk : (checkE n l == 0) = false := by
    rw [beq_eq_false_iff_ne]; intro h; have := (check_ok h).2.2.1; omega
   rw [hk]
   clear hk
   go_enter Try.func22, Try.ntmps22
   go_wp2_with fail
   go_ret
   exact ⟨rfl, Below.refl _ _⟩
end Go.Proofs.Ytmoiickbgokloaa.PA
