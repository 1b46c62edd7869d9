/- Words and walks that the kit's printer wrote for this claim, less what the proofs do not use. -/
import Derived.Test.YtmoiickbgokloaaEPAx7
import Derived.Test.YtmoiickbgokloaaESb
namespace Go.Proofs.Ytmoiickbgokloaa.PA
open Go.RowKit Go.Proofs.YtmoiickbgokloaaW.PrintWords Go.Proofs.YtmoiickbgokloaaW.PrintLast Go.Proofs.YtmoiickbgokloaaW.PrintMore Go.Proofs.Ytmoiickbgokloaa.Utv
set_option linter.unusedVariables false
set_option linter.unusedSimpArgs false
set_option maxRecDepth 100000 in
set_option maxHeartbeats 1000000 in
theorem lright_calls (n : Int) (A : Option Addr) (c : Nat) (l : List S24) (w : World) (hr : Kd.C k24 w A l.length l) (hc : l.length ≤ c) :
 Calls Try.prog 22 #[.int .i64 n, .slice A l.length c] w fun e w' => e = .returned (.bool (checkE n l == 0)) ∧ Below w.heap.size w w' := by
 have HL := Aside0.mk hr
 clear hr
 by_cases hl : l.length ≤ 40
 · have hd : decide ((l.length : Int) ≤ 40) = true := decide_eq_true (by omega)
   go_enter Try.func22, Try.ntmps22
   go_wp2_with (go_at_call 31; refine (check_calls n A c l _ HL.out hc).mono ?_; rintro e w1 ⟨rfl, hb1⟩; have HB1 := Aside0.mk hb1; clear hb1)
   go_ret
   exact ⟨rfl, HB1.out⟩
 · have hd : decide ((l.length : Int) ≤ 40) = false := decide_eq_false (by omega)
   have hk : (checkE n l == 0) = false := by
    rw [beq_eq_false_iff_ne]; intro h; have := (check_ok h).2.2.1; omega
   rw [hk]
   clear hk
   go_enter Try.func22, Try.ntmps22
   go_wp2_with fail
   go_ret
   exact ⟨rfl, Below.refl _ _⟩
theorem with_ok (l : List S24) (a : S24) (hl : l.length ≤ 100) : cosignerlaw12_with.f l a.f0 a.f1 a.f2 a.f3 a.f4 = some (l ++ [a]) := by
 unfold cosignerlaw12_with.f
 simp only [Option.bind_some, List.length_nil, List.nil_append, List.length_cons]
 rw [if_pos (by omega), if_pos (by omega)]
theorem check_app {n : Int} {l : List S24} {a : S24} (h : checkE n l = 0) (hl : l.length ≤ 39) (ha : rightB n a = true) : checkE n (l ++ [a]) = 0 := by
 obtain ⟨h1, h2, h3, h4⟩ := check_ok h
 refine ok_check h1 h2 (by simp; omega) (fun x hx => ?_)
 rcases List.mem_append.1 hx with hx | hx
 · exact h4 x hx
 · simp at hx; subst hx; exact rt_of_right ha
theorem beq_ok {x : Int} (h : (x == 0) = true) : x = 0 := by simpa using h
end Go.Proofs.Ytmoiickbgokloaa.PA
