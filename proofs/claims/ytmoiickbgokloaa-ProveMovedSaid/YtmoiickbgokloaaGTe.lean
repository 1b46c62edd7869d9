/- Plain: a greatest value exists. -/
import Derived.Test.YtmoiickbgokloaaGTg
namespace Go.Proofs.Ytmoiickbgokloaa.PA
open Go.RowKit Go.Proofs.YtmoiickbgokloaaW.PrintWords Go.Proofs.YtmoiickbgokloaaW.PrintLast Go.Proofs.YtmoiickbgokloaaW.PrintMore Go.Proofs.Ytmoiickbgokloaa.Utv
set_option linter.unusedVariables false
set_option linter.unusedSimpArgs false
theorem top_exists {n : Nat} {l : List S24} (hr : Rns n l) (hn : n ≤ 12) (hs : satB l = true) {a : S24} (r : Rt n a) : ∃ v, Top l a v := by
 rcases FW.all hr hn ((Bg.all hr l.length (Nat.le_refl _)).fw hr) (2 * n) (Nat.le_refl _) with h | ⟨_, i, d, ⟨t, vs, d', ht, hd'⟩, hlt⟩
 · obtain ⟨S, hF⟩ := fin_exists hr hn (h.nn hr hn)
   have hC := (calm_iff hr hF).2 (satB_iff.1 hs)
   exact ⟨_, of_top hr hF hC r⟩
 · obtain ⟨x, hx⟩ := satB_iff.1 hs
   have := ht.sound hr.w hx; omega
end Go.Proofs.Ytmoiickbgokloaa.PA
