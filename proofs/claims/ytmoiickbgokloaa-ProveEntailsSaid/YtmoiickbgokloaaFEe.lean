/- Plain: the specification's Entails is what entB tells. -/
import Derived.Test.YtmoiickbgokloaaFEEx0
import Derived.Test.YtmoiickbgokloaaFCp
import Derived.Test.YtmoiickbgokloaaFPh
import Derived.Test.YtmoiickbgokloaaFPv
import Derived.Test.YtmoiickbgokloaaFBb
namespace Go.Proofs.Ytmoiickbgokloaa.PA
open Go.RowKit Go.Proofs.YtmoiickbgokloaaW.PrintWords Go.Proofs.YtmoiickbgokloaaW.PrintLast Go.Proofs.YtmoiickbgokloaaW.PrintMore Go.Proofs.Ytmoiickbgokloaa.Utv
set_option linter.unusedVariables false
set_option linter.unusedSimpArgs false
theorem entails_f {n : Nat} {l : List S24} {a : S24} (hc : checkE n l = 0) (ha : rightB n a = true) : cosignerref12_entails.f n l a.f0 a.f1 a.f2 a.f3 a.f4 = some (entB l a) := by
 have fd := farR_def
 have hfd := far_def
 obtain ⟨h1, h2, _, h4⟩ := check_ok hc
 have r := rt_of_right ha
 unfold cosignerref12_entails.f cosignerref12_tight.f
 rw [if_pos hc, Option.bind_some]
 cases hs : satB l
 · rw [ent_of_unsat hs]; rfl
 · simp only [if_true]
   have hT := tight_ok h4 (by omega) hs a r
   have hx := top_exists h4 (by omega) hs r.toRt
   have hb := top_range hx
   obtain ⟨v, hv⟩ := hx
   rw [Int.toNat_natCast, most_f (by omega) r hT hb, Option.bind_some, ent_of_top r.toRt hv]
   rw [topV_eq hv] at hb ⊢
   have := r.n1
   congr 1
   apply decide_eq_decide.2
   unfold capR
   rw [hfd]
   rcases hb with h | h
   · rw [if_pos h]; omega
   · rw [if_neg (by omega)]
theorem Entails_f (n : Int) (l : List S24) (a : S24) (k : Nat) (hk : 80 ≤ k) : cosignerref12_Entails.f k n l a.f0 a.f1 a.f2 a.f3 a.f4 = some (prove_Entails.g n l a) := by
 unfold cosignerref12_Entails.f prove_Entails.g
 rw [asked_f n l a k hk, Option.bind_some]
 by_cases h : lineE n l a = 0
 · obtain ⟨hc, hra⟩ := line_parts h
   obtain ⟨h1, h2, _, h4⟩ := check_ok hc
   obtain ⟨n, rfl⟩ : ∃ m : Nat, n = m := ⟨n.toNat, by omega⟩
   rw [if_pos h, if_pos h, entails_f hc hra, Option.bind_some]
 · rw [if_neg h, if_neg h]
end Go.Proofs.Ytmoiickbgokloaa.PA
