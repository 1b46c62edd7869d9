/- Plain: numbers that fit, as the law's fits tells. -/
import Derived.Test.YtmoiickbgokloaaGFTx0
namespace Go.Proofs.Ytmoiickbgokloaa.PA
open Go.RowKit Go.Proofs.YtmoiickbgokloaaW.PrintWords Go.Proofs.YtmoiickbgokloaaW.PrintLast Go.Proofs.YtmoiickbgokloaaW.PrintMore Go.Proofs.Ytmoiickbgokloaa.Utv
set_option linter.unusedVariables false
set_option linter.unusedSimpArgs false
/-- The numbers of a list. -/
def xf (x : List Int) : Nat → Int := fun i => rd x (i : Nat)
theorem rd_nat {x : List Int} {i : Int} : rd x ((i.toNat : Nat) : Int) = rd x i := by unfold rd; rw [Int.toNat_natCast]
theorem fitB_iff {x : List Int} {a : S24} : fitB x a = true ↔ fits (xf x) a := by
 unfold fitB fits lhs xf
 rw [rd_nat, rd_nat]
 simp
theorem fitG_true {l : List S24} {x : List Int} : ∀ (d i : Nat), (fitG l x d i).2.1 = true → fitG l x d i = (0, true, 0) ∧ ∀ j, i ≤ j → j < i + d → fitB x (rd_T24 l (j : Nat)) = true
 | 0, i, _ => ⟨rfl, fun j h1 h2 => by omega⟩
 | d + 1, i, h => by
  simp only [fitG] at h ⊢
  by_cases hb : fitB x (rd_T24 l (i : Nat)) = true
  · rw [if_pos hb] at h ⊢
    obtain ⟨e, hj⟩ := fitG_true d (i + 1) h
    exact ⟨e, fun j h1 h2 => by
     by_cases ej : j = i
     · rw [ej]; exact hb
     · exact hj j (by omega) (by omega)⟩
  · rw [if_neg hb] at h; cases h
theorem fitG_all {l : List S24} {x : List Int} : ∀ (d i : Nat), (∀ j, i ≤ j → j < i + d → fitB x (rd_T24 l (j : Nat)) = true) → fitG l x d i = (0, true, 0)
 | 0, i, _ => rfl
 | d + 1, i, h => by
  simp only [fitG]
  rw [if_pos (h i (by omega) (by omega))]
  exact fitG_all d (i + 1) fun j h1 h2 => h j (by omega) (by omega)
theorem rdT_get {l : List S24} {j : Nat} (h : j < l.length) : rd_T24 l (j : Nat) = l[j] := by
 unfold rd_T24; rw [Int.toNat_natCast, List.getD_eq_getElem?_getD, List.getElem?_eq_getElem h]; rfl
/-- What the law's fits tells. -/
def fitsV (n : Int) (l : List S24) (x : List Int) : Bool := (fitsG n l x).2.1 && ((fitsG n l x).2.2 == 0)
theorem fits_f (n : Int) (l : List S24) (x : List Int) : cosignerlaw12_fits.f n l x = some (fitsV n l x) := by
 unfold cosignerlaw12_fits.f prove_Fits.f fitsV
 rw [Option.bind_some]
 cases (fitsG n l x).2.1 <;> simp
theorem fits_T {n : Int} {l : List S24} {x : List Int} (h : fitsV n l x = true) : (x.length : Int) = n ∧ anyOut x = false ∧ Sat l (xf x) := by
 unfold fitsV fitsG at h
 by_cases hk : checkE n l = 0
 · rw [if_pos hk] at h
   by_cases hx : (x.length : Int) = n
   · rw [if_pos hx] at h
     cases ho : anyOut x
     · rw [ho, if_neg (by simp)] at h
       refine ⟨hx, rfl, fun a ha => ?_⟩
       obtain ⟨j, hj, rfl⟩ := List.getElem_of_mem ha
       have := (fitG_true l.length 0 (by simp at h; exact h.1)).2 j (by omega) (by omega)
       rw [rdT_get hj] at this
       exact fitB_iff.1 this
     · rw [ho, if_pos rfl] at h; simp at h
   · rw [if_neg hx] at h; simp at h
 · rw [if_neg hk] at h; simp at h
theorem fits_S {n : Int} {l : List S24} {x : List Int} (hk : checkE n l = 0) (hx : (x.length : Int) = n) (ho : anyOut x = false) (hs : Sat l (xf x)) : fitsV n l x = true := by
 unfold fitsV fitsG
 rw [if_pos hk, if_pos hx, ho, if_neg (by simp), fitG_all l.length 0 fun j _ hj => ?_]
 · rfl
 · rw [rdT_get (by omega)]
   exact fitB_iff.2 (hs _ (List.getElem_mem _))
end Go.Proofs.Ytmoiickbgokloaa.PA
