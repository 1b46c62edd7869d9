/- Words and walks that the kit's printer wrote for this claim, less what the proofs do not use. -/
import Derived.Test.YtmoiickbgokloaaJHi
namespace Go.Proofs.Ytmoiickbgokloaa.PA
open Go.RowKit Go.Proofs.YtmoiickbgokloaaW.PrintWords Go.Proofs.YtmoiickbgokloaaW.PrintLast Go.Proofs.YtmoiickbgokloaaW.PrintMore
set_option linter.unusedVariables false
set_option linter.unusedSimpArgs false
/-- A number is small. -/
def smallB (x : Int) : Bool := decide (-1099511627776 ≤ x) && decide (x ≤ 1099511627776)
/-- Some number is not small. -/
def anyOut (l : List Int) : Bool := l.any fun x => !smallB x
/-- The numbers fit a line. -/
def fitB (x : List Int) (a : S24) : Bool := decide (a.f1 * rd x a.f0 + a.f3 * rd x a.f2 ≤ a.f4)
/-- The first line from the i-th one on that the numbers do not fit. -/
def fitG (l : List S24) (x : List Int) : Nat → Nat → Int × Bool × Int
 | 0, _ => (0, true, 0)
 | d + 1, i => if fitB x (rd_T24 l (i : Nat)) = true then fitG l x d (i + 1) else ((i : Int), false, 0)
/-- What prove.Fits tells. -/
def fitsG (n : Int) (l : List S24) (x : List Int) : Int × Bool × Int :=
 if checkE n l = 0 then (if (x.length : Int) = n then (if anyOut x = true then (0, false, 1) else fitG l x l.length 0) else (0, false, 1)) else (0, false, checkE n l)
theorem anyBad_rd {n : Int} {l : List S24} (h : anyBad n l = false) {i : Nat} (hi : i < l.length) : rightB n (rd_T24 l (i : Nat)) = true := by
 unfold anyBad at h
 rw [List.any_eq_false] at h
 have := h _ (List.getElem_mem hi)
 unfold rd_T24
 rw [Int.toNat_natCast, List.getD_eq_getElem?_getD, List.getElem?_eq_getElem hi]
 simpa using this
theorem anyOut_rd {l : List Int} (h : anyOut l = false) {i : Int} (h0 : 0 ≤ i) (hi : i < l.length) : -1099511627776 ≤ rd l i ∧ rd l i ≤ 1099511627776 := by
 unfold anyOut at h
 rw [List.any_eq_false] at h
 have hi' : i.toNat < l.length := by omega
 have := h _ (List.getElem_mem hi')
 unfold rd
 rw [List.getD_eq_getElem?_getD, List.getElem?_eq_getElem hi']
 simp [smallB] at this
 simpa using this
theorem check_parts {n : Int} {l : List S24} (h : checkE n l = 0) : 1 ≤ n ∧ n ≤ 12 ∧ l.length ≤ 40 ∧ anyBad n l = false := by
 unfold checkE at h
 split at h
 · rename_i hn
   split at h
   · simp at h
   · split at h
     · simp at h
     · rename_i h1 h2; exact ⟨hn.1, hn.2, by omega, by simpa using h2⟩
 · simp at h
theorem right_parts {n : Int} {x : S24} (h : rightB n x = true) (hn : 1 ≤ n) : (0 ≤ x.f0 ∧ x.f0 < n) ∧ (x.f1 = 1 ∨ x.f1 = -1) ∧ (0 ≤ x.f2 ∧ x.f2 < n) ∧ (x.f3 = 0 ∨ x.f3 = 1 ∨ x.f3 = -1) := by
 unfold rightB at h
 simp only [Bool.and_eq_true, decide_eq_true_eq, Bool.or_eq_true] at h
 obtain ⟨⟨⟨⟨⟨⟨⟨h1, h2⟩, h3⟩, h4⟩, h5⟩, h6⟩, h7⟩, h8⟩ := h
 refine ⟨⟨h1, by omega⟩, h3, ?_, by omega⟩
 split at h8
 · simp at h8; omega
 · simp at h8; omega
end Go.Proofs.Ytmoiickbgokloaa.PA
